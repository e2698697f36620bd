/-
  THE DOCUMENT's WRITER OF NUMBERS: its contract.
-/
import Derived.Test.YtmgpldgldgdenaaDoorBin2
import Derived.Test.YtmgpldgldgdenaaDoorRefDef
import Derived.Test.YtmgpldgldgdenaaDoorUndef
namespace Go.Proofs.YtmgpldgldgdenaaDoor
open Go.RowKit
namespace FactsRef1
theorem info5 : (Tryd.prog.info? 5).map (fun i => (i.zero, i.size, i.bytes)) = some (some (.int .u8 0), 1, 1) := by kernel_rfl
theorem ixs26 : (Tryd.prog.info? 5).map (·.size) = some 1 := by kernel_rfl
theorem one5 : oneB Tryd.prog 5 = true := by kernel_rfl
end FactsRef1
theorem div_i64 {n : Int} (hn : I64 n) (j : Nat) : I64 (n / 2 ^ (8 * j)) := by
  have hp : (0 : Int) < 2 ^ (8 * j) := Int.pow_pos (by decide)
  obtain ⟨h1, h2⟩ := hn
  have e1 := Int.mul_ediv_add_emod n (2 ^ (8 * j))
  have e2 := Int.emod_nonneg n (show (2 : Int) ^ (8 * j) ≠ 0 by omega)
  have e3 := Int.emod_lt_of_pos n hp
  constructor
  · rcases Int.lt_or_le n 0 with h | h
    · exact Int.le_trans h1 (Int.le_ediv_of_mul_le hp (by
        have : n * 2 ^ (8 * j) ≤ n * 1 := Int.mul_le_mul_of_nonpos_left (by omega) (by omega)
        omega))
    · have := Int.ediv_nonneg h (Int.le_of_lt hp); omega
  · rcases Int.lt_or_le n 0 with h | h
    · have := Int.ediv_neg_of_neg_of_pos h hp; omega
    · exact Int.le_trans (Int.ediv_le_self _ h) h2
section
variable (W : World) (B : Nat)
theorem ref_Int (n : Int) (hn : I64 n) : Spec Tryd.prog W B 25 [.int .i64 n] [] (fun v post => ∃ ch, OwnB v (encZ n) ch ∧ post = ch) := by
  refine Spec.enter ([]) Tryd.func25 rfl Tryd.ntmps25 rfl (by first | rfl | simp) (fun w0 => ?_)
  refine CW.seq ?_
  refine CW.region ?_
  refine LW.assign rfl rfl ?_
  refine LW.nil ?_
  refine NW.then_ ?_
  refine CW.seq ?_
  refine CW.region ?_
  refine LW.assign rfl rfl ?_
  refine LW.nil ?_
  refine NW.then_ ?_
  refine CW.cut (fun st : Nat × Value × List Row => [(3, st.2.1)]) (fun st => [st.2.2]) (fun st => st.1 ≤ 8 ∧ OwnB st.2.1 ((List.range st.1).map (byteZ n)) st.2.2 ∧ sizeZ n = st.1) ?cut6_1 ?cut6_2
  case cut6_1 =>
    refine CW.seq ?_
    refine CW.region ?_
    refine LW.move rfl rfl ?_
    refine LW.assign rfl rfl ?_
    refine LW.nil ?_
    refine NW.then_ ?_
    refine CW.block ?_
    refine CW.loop (fun st : Nat × Int × Value × List Row => [(4, .int .i64 st.2.1), (3, st.2.2.1), (0, .int .i64 n)]) (fun st => [st.2.2.2]) (fun st => st.1 ≤ 8 ∧ st.2.1 = n / 2 ^ (8 * st.1) ∧ OwnB st.2.2.1 ((List.range st.1).map (byteZ n)) st.2.2.2 ∧ ∀ i, i < st.1 → stopZ n i = false) (fun st => 8 - st.1) (0, n, .slice none 0 0, []) ?st4_j ?st4_e ?st4_h ?st4_r
    case st4_j => exact ⟨by omega, by simp, OwnB.nil, fun i h => by omega⟩
    case st4_e => repeat (first | exact Env.Le.nil _ | refine Env.Le.cons rfl ?_)
    case st4_h => repeat (first | exact Sub.heap_nil _ | exact Sub.refl _ | refine Sub.heap_cons (by repeat (first | exact Take.head _ _ | apply Take.tail)) ?_)
    case st4_r =>
      rintro ⟨j, m, v, ch⟩ ⟨hj, hm, ho, hlt⟩; dsimp only at hj hm ho hlt; obtain ⟨A, cp, rfl, hA, hc⟩ := OwnS.val ho; have hlen : ((List.range j).map (byteZ n)).length = j := by simp
      have hI := div_i64 hn j
      rw [← hm] at hI
      refine CW.seq ?_
      refine CW.block ?_
      refine CW.seq ?_
      refine CW.seq ?_
      refine CW.region ?_
      refine LW.move rfl rfl ?_
      by_cases hm0 : m = 0
      · refine LW.eql true rfl rfl (beq_iff_eq.2 (by omega)) rfl ?_
        refine LW.move rfl rfl ?_
        refine LW.on 10 rfl rfl ?_
        refine LW.move rfl rfl ?_
        refine LW.on 10 rfl rfl ?_
        refine LW.lenSlice rfl Tryd.underlying26 rfl ?_
        by_cases hj0 : j = 0
        · refine LW.on 10 rfl rfl ?_
          refine LW.eql true rfl rfl ((by rw [hlen]; exact beq_iff_eq.2 (by omega))) rfl ?_
          refine LW.on 10 rfl rfl ?_
          refine LW.move rfl rfl ?_
          refine LW.off 14 rfl rfl rfl rfl ?_
          refine LW.off 14 rfl rfl rfl rfl ?_
          refine LW.off 14 rfl rfl rfl rfl ?_
          refine LW.off 14 rfl rfl rfl rfl ?_
          refine LW.off 14 rfl rfl rfl rfl ?_
          refine LW.off 14 rfl rfl rfl rfl ?_
          refine LW.off 14 rfl rfl rfl rfl ?_
          refine LW.on 10 rfl rfl ?_
          refine LW.pickT rfl rfl rfl ?_
          refine LW.pickT rfl rfl rfl ?_
          refine LW.move rfl rfl ?_
          refine LW.off 24 rfl rfl rfl rfl ?_
          refine LW.off 24 rfl rfl rfl rfl ?_
          refine LW.off 24 rfl rfl rfl rfl ?_
          refine LW.offU 27 rfl rfl rfl ?_
          refine LW.offU 27 rfl rfl rfl ?_
          refine LW.offU 27 rfl rfl rfl ?_
          refine LW.off 24 rfl rfl rfl rfl ?_
          refine LW.off 24 rfl rfl rfl rfl ?_
          refine LW.offU 32 rfl rfl rfl ?_
          refine LW.offU 32 rfl rfl rfl ?_
          refine LW.offU 32 rfl rfl rfl ?_
          refine LW.offU 32 rfl rfl rfl ?_
          refine LW.offU 32 rfl rfl rfl ?_
          refine LW.offU 32 rfl rfl rfl ?_
          refine LW.offU 32 rfl rfl rfl ?_
          refine LW.off 24 rfl rfl rfl rfl ?_
          refine LW.pickT rfl rfl rfl ?_
          refine LW.nil ?_
          refine NW.then_ ?_
          refine CW.cond_true rfl ?_
          refine CW.exit ?_
          refine NW.then_exit ?_
          refine NW.block_other rfl ?_
          refine NW.then_exit ?_
          refine NW.then_exit ?_
          refine NW.block_exit ?_
          refine NW.meet ((j, .slice A ((List.range j).map (byteZ n)).length cp, ch)) ?j1 ?e1 ?h1
          case j1 => exact ⟨hj, ho, stop_size hn hj hlt (by subst hj0; exact (stopZ_zero n).2 (by simpa [hm0] using hm.symm))⟩
          case e1 => repeat (first | exact Env.Le.nil _ | refine Env.Le.cons rfl ?_)
          case h1 => repeat (first | exact Sub.heap_nil _ | exact Sub.refl _ | refine Sub.heap_cons (by repeat (first | exact Take.head _ _ | apply Take.tail)) ?_)
        · refine LW.on 10 rfl rfl ?_
          refine LW.eql false rfl rfl ((by rw [hlen]; exact beq_eq_false_iff_ne.2 (by omega))) rfl ?_
          refine LW.on 10 rfl rfl ?_
          refine LW.move rfl rfl ?_
          refine LW.on 14 rfl rfl ?_
          refine LW.move rfl rfl ?_
          refine LW.on 14 rfl rfl ?_
          refine LW.move rfl rfl ?_
          refine LW.on 14 rfl rfl ?_
          refine LW.lenSlice rfl Tryd.underlying26 rfl ?_
          refine LW.on 14 rfl rfl ?_
          refine LW.sub ((j - 1 : Int)) rfl rfl ((by rw [hlen]; exact wr64 rfl (by omega) (by omega))) rfl ?_
          refine LW.on 14 rfl rfl ?_
          obtain ⟨a, rfl⟩ : ∃ a, A = some a := by
            cases A with
            | none => have := hA rfl; omega
            | some a => exact ⟨a, rfl⟩
          refine LW.indexAt rfl rfl Tryd.underlying26 FactsRef1.ixs26 (by omega) (by omega) rfl ?_
          refine LW.on 14 rfl rfl ?_
          refine LW.loadRd (v := .int .u8 ((byteZ n (j - 1)).toNat : Int)) rfl ((OwnS.src (W := W) (B := B) ho).rd (by repeat (first | exact Take.head _ _ | apply Take.tail))) (by simp [u8v, show ((j : Int) - 1).toNat = j - 1 by omega, show j - 1 < j by omega]) FactsRef1.one5 rfl ?_
          by_cases hy : (byteZ n (j - 1)).toNat < 128
          · refine LW.on 14 rfl rfl ?_
            refine LW.lss true rfl rfl (decide_eq_true (by omega)) rfl ?_
            refine LW.on 10 rfl rfl ?_
            refine LW.pickF rfl rfl rfl ?_
            refine LW.pickT rfl rfl rfl ?_
            refine LW.move rfl rfl ?_
            refine LW.off 24 rfl rfl rfl rfl ?_
            refine LW.off 24 rfl rfl rfl rfl ?_
            refine LW.off 24 rfl rfl rfl rfl ?_
            refine LW.offU 27 rfl rfl rfl ?_
            refine LW.offU 27 rfl rfl rfl ?_
            refine LW.offU 27 rfl rfl rfl ?_
            refine LW.off 24 rfl rfl rfl rfl ?_
            refine LW.off 24 rfl rfl rfl rfl ?_
            refine LW.offU 32 rfl rfl rfl ?_
            refine LW.offU 32 rfl rfl rfl ?_
            refine LW.offU 32 rfl rfl rfl ?_
            refine LW.offU 32 rfl rfl rfl ?_
            refine LW.offU 32 rfl rfl rfl ?_
            refine LW.offU 32 rfl rfl rfl ?_
            refine LW.offU 32 rfl rfl rfl ?_
            refine LW.off 24 rfl rfl rfl rfl ?_
            refine LW.pickT rfl rfl rfl ?_
            refine LW.nil ?_
            refine NW.then_ ?_
            refine CW.cond_true rfl ?_
            refine CW.exit ?_
            refine NW.then_exit ?_
            refine NW.block_other rfl ?_
            refine NW.then_exit ?_
            refine NW.then_exit ?_
            refine NW.block_exit ?_
            refine NW.meet ((j, .slice (some a) ((List.range j).map (byteZ n)).length cp, ch)) ?j2 ?e2 ?h2
            case j2 => exact ⟨hj, ho, stop_size hn hj hlt (by simp [stopZ, ← hm, hm0, hy])⟩
            case e2 => repeat (first | exact Env.Le.nil _ | refine Env.Le.cons rfl ?_)
            case h2 => repeat (first | exact Sub.heap_nil _ | exact Sub.refl _ | refine Sub.heap_cons (by repeat (first | exact Take.head _ _ | apply Take.tail)) ?_)
          · refine LW.on 14 rfl rfl ?_
            refine LW.lss false rfl rfl (decide_eq_false (by omega)) rfl ?_
            refine LW.on 10 rfl rfl ?_
            refine LW.pickF rfl rfl rfl ?_
            refine LW.pickT rfl rfl rfl ?_
            refine LW.move rfl rfl ?_
            refine LW.on 24 rfl rfl ?_
            refine LW.move rfl rfl ?_
            refine LW.on 24 rfl rfl ?_
            refine LW.eql false rfl rfl ((by show (m == -1) = false; exact beq_eq_false_iff_ne.2 (by omega))) rfl ?_
            refine LW.on 24 rfl rfl ?_
            refine LW.move rfl rfl ?_
            refine LW.off 27 rfl rfl rfl rfl ?_
            refine LW.off 27 rfl rfl rfl rfl ?_
            refine LW.off 27 rfl rfl rfl rfl ?_
            refine LW.on 24 rfl rfl ?_
            refine LW.pickF rfl rfl rfl ?_
            refine LW.on 24 rfl rfl ?_
            refine LW.move rfl rfl ?_
            refine LW.off 32 rfl rfl rfl rfl ?_
            refine LW.off 32 rfl rfl rfl rfl ?_
            refine LW.off 32 rfl rfl rfl rfl ?_
            refine LW.off 32 rfl rfl rfl rfl ?_
            refine LW.off 32 rfl rfl rfl rfl ?_
            refine LW.off 32 rfl rfl rfl rfl ?_
            refine LW.off 32 rfl rfl rfl rfl ?_
            refine LW.on 24 rfl rfl ?_
            refine LW.pickF rfl rfl rfl ?_
            refine LW.pickF rfl rfl rfl ?_
            refine LW.nil ?_
            refine NW.then_ ?_
            refine CW.cond_false rfl ?_
            refine CW.skip ?_
            refine NW.then_ ?_
            have hns : stopZ n j = false := by simp [stopZ, ← hm, hm0, hj0, hy]
            refine CW.region ?_
            refine LW.move rfl rfl ?_
            refine LW.move rfl rfl ?_
            have hj8 : j ≠ 8 := fun h => by
              rw [h, (stopZ_fits n 8 (by omega) (by omega)).2 (fits8 hn)] at hns
              cases hns
            refine LW.and_ (bits .and .i64 m 255) rfl rfl (rfl) rfl ?_
            refine LW.convInt (((byteZ n j).toNat : Int)) rfl Tryd.underlying2 Tryd.underlying5 ((by rw [and255, wrap_u8, hm, byteZ, Int.fdiv_eq_ediv_of_nonneg _ (Int.pow_nonneg (by decide))])) rfl ?_
            refine LW.buildSlice (vs := [_]) ⟨rfl, trivial⟩ rfl (by intro v hv; simp at hv; subst hv; rfl) Tryd.underlying26 FactsRef1.info5 rfl (by decide) (by decide) rfl ?_
            intro bs46
            refine LW.append ([byteZ n j].map u8v) rfl rfl Tryd.underlying26 Tryd.underlying26 (.inr ⟨_, rfl⟩) FactsRef1.info5 rfl (ho) (by repeat (first | exact Take.head _ _ | apply Take.tail)) (fun _ => lenOf_slice _ _ _ _) (first_rd (RdAt.row (by repeat (first | exact Take.head _ _ | apply Take.tail)) (fun j v hj => by rw [Nat.zero_add]; exact hj)) rfl (fun h => (by cases h))) (rfl) (u8vs_one _) (by omega) (by omega) rfl ?_
            intro v2 ch2 ho2; replace ho2 := OwnB.app ho2 rfl rfl
            refine LW.assign rfl rfl ?_
            refine LW.nil ?_
            refine NW.block ?_
            refine NW.then_ ?_
            refine CW.region ?_
            refine LW.move rfl rfl ?_
            refine LW.shr (n / 2 ^ (8 * (j + 1))) rfl rfl (by decide) ((by rw [hm]; exact shr8 n j)) rfl ?_
            refine LW.assign rfl rfl ?_
            refine LW.nil ?_
            refine NW.meet ((j + 1, n / 2 ^ (8 * (j + 1)), v2, ch2)) ?j3 ?e3 ?h3
            case j3 => exact ⟨⟨by omega, rfl, by rw [List.range_succ, List.map_append]; exact ho2, fun i hi => by
              rcases Nat.lt_or_ge i j with h | h
              · exact hlt i h
              · have : i = j := by omega
                subst this; exact hns⟩, by dsimp only; omega⟩
            case e3 => repeat (first | exact Env.Le.nil _ | refine Env.Le.cons rfl ?_)
            case h3 => repeat (first | exact Sub.heap_nil _ | exact Sub.refl _ | refine Sub.heap_cons (by repeat (first | exact Take.head _ _ | apply Take.tail)) ?_)
      · refine LW.eql false rfl rfl (beq_eq_false_iff_ne.2 (by omega)) rfl ?_
        refine LW.move rfl rfl ?_
        refine LW.off 10 rfl rfl rfl rfl ?_
        refine LW.off 10 rfl rfl rfl rfl ?_
        refine LW.off 10 rfl rfl rfl rfl ?_
        refine LW.off 10 rfl rfl rfl rfl ?_
        refine LW.offU 14 rfl rfl rfl ?_
        refine LW.offU 14 rfl rfl rfl ?_
        refine LW.offU 14 rfl rfl rfl ?_
        refine LW.offU 14 rfl rfl rfl ?_
        refine LW.offU 14 rfl rfl rfl ?_
        refine LW.offU 14 rfl rfl rfl ?_
        refine LW.offU 14 rfl rfl rfl ?_
        refine LW.off 10 rfl rfl rfl rfl ?_
        refine LW.pickF rfl rfl rfl ?_
        refine LW.move rfl rfl ?_
        refine LW.on 24 rfl rfl ?_
        refine LW.move rfl rfl ?_
        by_cases hm1 : m = -1
        · refine LW.on 24 rfl rfl ?_
          refine LW.eql true rfl rfl (beq_iff_eq.2 (by omega)) rfl ?_
          refine LW.on 24 rfl rfl ?_
          refine LW.move rfl rfl ?_
          refine LW.on 27 rfl rfl ?_
          refine LW.move rfl rfl ?_
          refine LW.on 27 rfl rfl ?_
          refine LW.lenSlice rfl Tryd.underlying26 rfl ?_
          by_cases hjp : 0 < j
          · refine LW.on 27 rfl rfl ?_
            refine LW.gtr true rfl rfl ((by rw [hlen]; exact decide_eq_true (by omega))) rfl ?_
            refine LW.on 24 rfl rfl ?_
            refine LW.pickT rfl rfl rfl ?_
            refine LW.on 24 rfl rfl ?_
            refine LW.move rfl rfl ?_
            refine LW.on 32 rfl rfl ?_
            refine LW.move rfl rfl ?_
            refine LW.on 32 rfl rfl ?_
            refine LW.move rfl rfl ?_
            refine LW.on 32 rfl rfl ?_
            refine LW.lenSlice rfl Tryd.underlying26 rfl ?_
            refine LW.on 32 rfl rfl ?_
            refine LW.sub ((j - 1 : Int)) rfl rfl ((by rw [hlen]; exact wr64 rfl (by omega) (by omega))) rfl ?_
            refine LW.on 32 rfl rfl ?_
            obtain ⟨a, rfl⟩ : ∃ a, A = some a := by
              cases A with
              | none => have := hA rfl; omega
              | some a => exact ⟨a, rfl⟩
            refine LW.indexAt rfl rfl Tryd.underlying26 FactsRef1.ixs26 (by omega) (by omega) rfl ?_
            refine LW.on 32 rfl rfl ?_
            refine LW.loadRd (v := .int .u8 ((byteZ n (j - 1)).toNat : Int)) rfl ((OwnS.src (W := W) (B := B) ho).rd (by repeat (first | exact Take.head _ _ | apply Take.tail))) (by simp [u8v, show ((j : Int) - 1).toNat = j - 1 by omega, show j - 1 < j by omega]) FactsRef1.one5 rfl ?_
            by_cases hy : 128 ≤ (byteZ n (j - 1)).toNat
            · refine LW.on 32 rfl rfl ?_
              refine LW.geq true rfl rfl (decide_eq_true (by omega)) rfl ?_
              refine LW.on 24 rfl rfl ?_
              refine LW.pickT rfl rfl rfl ?_
              refine LW.pickF rfl rfl rfl ?_
              refine LW.nil ?_
              refine NW.then_ ?_
              refine CW.cond_true rfl ?_
              refine CW.exit ?_
              refine NW.then_exit ?_
              refine NW.block_other rfl ?_
              refine NW.then_exit ?_
              refine NW.then_exit ?_
              refine NW.block_exit ?_
              refine NW.meet ((j, .slice (some a) ((List.range j).map (byteZ n)).length cp, ch)) ?j4 ?e4 ?h4
              case j4 => exact ⟨hj, ho, stop_size hn hj hlt (by simp [stopZ, ← hm, hm1, hy, hjp])⟩
              case e4 => repeat (first | exact Env.Le.nil _ | refine Env.Le.cons rfl ?_)
              case h4 => repeat (first | exact Sub.heap_nil _ | exact Sub.refl _ | refine Sub.heap_cons (by repeat (first | exact Take.head _ _ | apply Take.tail)) ?_)
            · refine LW.on 32 rfl rfl ?_
              refine LW.geq false rfl rfl (decide_eq_false (by omega)) rfl ?_
              refine LW.on 24 rfl rfl ?_
              refine LW.pickT rfl rfl rfl ?_
              refine LW.pickF rfl rfl rfl ?_
              refine LW.nil ?_
              refine NW.then_ ?_
              refine CW.cond_false rfl ?_
              refine CW.skip ?_
              refine NW.then_ ?_
              have hns : stopZ n j = false := by simp [stopZ, ← hm, hm1, hy]
              refine CW.region ?_
              refine LW.move rfl rfl ?_
              refine LW.move rfl rfl ?_
              have hj8 : j ≠ 8 := fun h => by
                rw [h, (stopZ_fits n 8 (by omega) (by omega)).2 (fits8 hn)] at hns
                cases hns
              refine LW.and_ (bits .and .i64 m 255) rfl rfl (rfl) rfl ?_
              refine LW.convInt (((byteZ n j).toNat : Int)) rfl Tryd.underlying2 Tryd.underlying5 ((by rw [and255, wrap_u8, hm, byteZ, Int.fdiv_eq_ediv_of_nonneg _ (Int.pow_nonneg (by decide))])) rfl ?_
              refine LW.buildSlice (vs := [_]) ⟨rfl, trivial⟩ rfl (by intro v hv; simp at hv; subst hv; rfl) Tryd.underlying26 FactsRef1.info5 rfl (by decide) (by decide) rfl ?_
              intro bs46
              refine LW.append ([byteZ n j].map u8v) rfl rfl Tryd.underlying26 Tryd.underlying26 (.inr ⟨_, rfl⟩) FactsRef1.info5 rfl (ho) (by repeat (first | exact Take.head _ _ | apply Take.tail)) (fun _ => lenOf_slice _ _ _ _) (first_rd (RdAt.row (by repeat (first | exact Take.head _ _ | apply Take.tail)) (fun j v hj => by rw [Nat.zero_add]; exact hj)) rfl (fun h => (by cases h))) (rfl) (u8vs_one _) (by omega) (by omega) rfl ?_
              intro v2 ch2 ho2; replace ho2 := OwnB.app ho2 rfl rfl
              refine LW.assign rfl rfl ?_
              refine LW.nil ?_
              refine NW.block ?_
              refine NW.then_ ?_
              refine CW.region ?_
              refine LW.move rfl rfl ?_
              refine LW.shr (n / 2 ^ (8 * (j + 1))) rfl rfl (by decide) ((by rw [hm]; exact shr8 n j)) rfl ?_
              refine LW.assign rfl rfl ?_
              refine LW.nil ?_
              refine NW.meet ((j + 1, n / 2 ^ (8 * (j + 1)), v2, ch2)) ?j5 ?e5 ?h5
              case j5 => exact ⟨⟨by omega, rfl, by rw [List.range_succ, List.map_append]; exact ho2, fun i hi => by
                rcases Nat.lt_or_ge i j with h | h
                · exact hlt i h
                · have : i = j := by omega
                  subst this; exact hns⟩, by dsimp only; omega⟩
              case e5 => repeat (first | exact Env.Le.nil _ | refine Env.Le.cons rfl ?_)
              case h5 => repeat (first | exact Sub.heap_nil _ | exact Sub.refl _ | refine Sub.heap_cons (by repeat (first | exact Take.head _ _ | apply Take.tail)) ?_)
          · refine LW.on 27 rfl rfl ?_
            refine LW.gtr false rfl rfl ((by rw [hlen]; exact decide_eq_false (by omega))) rfl ?_
            refine LW.on 24 rfl rfl ?_
            refine LW.pickT rfl rfl rfl ?_
            refine LW.on 24 rfl rfl ?_
            refine LW.move rfl rfl ?_
            refine LW.off 32 rfl rfl rfl rfl ?_
            refine LW.off 32 rfl rfl rfl rfl ?_
            refine LW.off 32 rfl rfl rfl rfl ?_
            refine LW.off 32 rfl rfl rfl rfl ?_
            refine LW.off 32 rfl rfl rfl rfl ?_
            refine LW.off 32 rfl rfl rfl rfl ?_
            refine LW.off 32 rfl rfl rfl rfl ?_
            refine LW.on 24 rfl rfl ?_
            refine LW.pickF rfl rfl rfl ?_
            refine LW.pickF rfl rfl rfl ?_
            refine LW.nil ?_
            refine NW.then_ ?_
            refine CW.cond_false rfl ?_
            refine CW.skip ?_
            refine NW.then_ ?_
            have hns : stopZ n j = false := by
              have hj0 : j = 0 := by omega
              subst hj0
              cases hst : stopZ n 0
              · rfl
              · exact absurd ((stopZ_zero n).1 hst) (fun h => hm0 (by rw [hm, h]; simp))
            refine CW.region ?_
            refine LW.move rfl rfl ?_
            refine LW.move rfl rfl ?_
            have hj8 : j ≠ 8 := fun h => by
              rw [h, (stopZ_fits n 8 (by omega) (by omega)).2 (fits8 hn)] at hns
              cases hns
            refine LW.and_ (bits .and .i64 m 255) rfl rfl (rfl) rfl ?_
            refine LW.convInt (((byteZ n j).toNat : Int)) rfl Tryd.underlying2 Tryd.underlying5 ((by rw [and255, wrap_u8, hm, byteZ, Int.fdiv_eq_ediv_of_nonneg _ (Int.pow_nonneg (by decide))])) rfl ?_
            refine LW.buildSlice (vs := [_]) ⟨rfl, trivial⟩ rfl (by intro v hv; simp at hv; subst hv; rfl) Tryd.underlying26 FactsRef1.info5 rfl (by decide) (by decide) rfl ?_
            intro bs46
            refine LW.append ([byteZ n j].map u8v) rfl rfl Tryd.underlying26 Tryd.underlying26 (.inr ⟨_, rfl⟩) FactsRef1.info5 rfl (ho) (by repeat (first | exact Take.head _ _ | apply Take.tail)) (fun _ => lenOf_slice _ _ _ _) (first_rd (RdAt.row (by repeat (first | exact Take.head _ _ | apply Take.tail)) (fun j v hj => by rw [Nat.zero_add]; exact hj)) rfl (fun h => (by cases h))) (rfl) (u8vs_one _) (by omega) (by omega) rfl ?_
            intro v2 ch2 ho2; replace ho2 := OwnB.app ho2 rfl rfl
            refine LW.assign rfl rfl ?_
            refine LW.nil ?_
            refine NW.block ?_
            refine NW.then_ ?_
            refine CW.region ?_
            refine LW.move rfl rfl ?_
            refine LW.shr (n / 2 ^ (8 * (j + 1))) rfl rfl (by decide) ((by rw [hm]; exact shr8 n j)) rfl ?_
            refine LW.assign rfl rfl ?_
            refine LW.nil ?_
            refine NW.meet ((j + 1, n / 2 ^ (8 * (j + 1)), v2, ch2)) ?j6 ?e6 ?h6
            case j6 => exact ⟨⟨by omega, rfl, by rw [List.range_succ, List.map_append]; exact ho2, fun i hi => by
              rcases Nat.lt_or_ge i j with h | h
              · exact hlt i h
              · have : i = j := by omega
                subst this; exact hns⟩, by dsimp only; omega⟩
            case e6 => repeat (first | exact Env.Le.nil _ | refine Env.Le.cons rfl ?_)
            case h6 => repeat (first | exact Sub.heap_nil _ | exact Sub.refl _ | refine Sub.heap_cons (by repeat (first | exact Take.head _ _ | apply Take.tail)) ?_)
        · refine LW.on 24 rfl rfl ?_
          refine LW.eql false rfl rfl (beq_eq_false_iff_ne.2 (by omega)) rfl ?_
          refine LW.on 24 rfl rfl ?_
          refine LW.move rfl rfl ?_
          refine LW.off 27 rfl rfl rfl rfl ?_
          refine LW.off 27 rfl rfl rfl rfl ?_
          refine LW.off 27 rfl rfl rfl rfl ?_
          refine LW.on 24 rfl rfl ?_
          refine LW.pickF rfl rfl rfl ?_
          refine LW.on 24 rfl rfl ?_
          refine LW.move rfl rfl ?_
          refine LW.off 32 rfl rfl rfl rfl ?_
          refine LW.off 32 rfl rfl rfl rfl ?_
          refine LW.off 32 rfl rfl rfl rfl ?_
          refine LW.off 32 rfl rfl rfl rfl ?_
          refine LW.off 32 rfl rfl rfl rfl ?_
          refine LW.off 32 rfl rfl rfl rfl ?_
          refine LW.off 32 rfl rfl rfl rfl ?_
          refine LW.on 24 rfl rfl ?_
          refine LW.pickF rfl rfl rfl ?_
          refine LW.pickF rfl rfl rfl ?_
          refine LW.nil ?_
          refine NW.then_ ?_
          refine CW.cond_false rfl ?_
          refine CW.skip ?_
          refine NW.then_ ?_
          have hns : stopZ n j = false := by simp [stopZ, ← hm, hm0, hm1]
          refine CW.region ?_
          refine LW.move rfl rfl ?_
          refine LW.move rfl rfl ?_
          have hj8 : j ≠ 8 := fun h => by
            rw [h, (stopZ_fits n 8 (by omega) (by omega)).2 (fits8 hn)] at hns
            cases hns
          refine LW.and_ (bits .and .i64 m 255) rfl rfl (rfl) rfl ?_
          refine LW.convInt (((byteZ n j).toNat : Int)) rfl Tryd.underlying2 Tryd.underlying5 ((by rw [and255, wrap_u8, hm, byteZ, Int.fdiv_eq_ediv_of_nonneg _ (Int.pow_nonneg (by decide))])) rfl ?_
          refine LW.buildSlice (vs := [_]) ⟨rfl, trivial⟩ rfl (by intro v hv; simp at hv; subst hv; rfl) Tryd.underlying26 FactsRef1.info5 rfl (by decide) (by decide) rfl ?_
          intro bs46
          refine LW.append ([byteZ n j].map u8v) rfl rfl Tryd.underlying26 Tryd.underlying26 (.inr ⟨_, rfl⟩) FactsRef1.info5 rfl (ho) (by repeat (first | exact Take.head _ _ | apply Take.tail)) (fun _ => lenOf_slice _ _ _ _) (first_rd (RdAt.row (by repeat (first | exact Take.head _ _ | apply Take.tail)) (fun j v hj => by rw [Nat.zero_add]; exact hj)) rfl (fun h => (by cases h))) (rfl) (u8vs_one _) (by omega) (by omega) rfl ?_
          intro v2 ch2 ho2; replace ho2 := OwnB.app ho2 rfl rfl
          refine LW.assign rfl rfl ?_
          refine LW.nil ?_
          refine NW.block ?_
          refine NW.then_ ?_
          refine CW.region ?_
          refine LW.move rfl rfl ?_
          refine LW.shr (n / 2 ^ (8 * (j + 1))) rfl rfl (by decide) ((by rw [hm]; exact shr8 n j)) rfl ?_
          refine LW.assign rfl rfl ?_
          refine LW.nil ?_
          refine NW.meet ((j + 1, n / 2 ^ (8 * (j + 1)), v2, ch2)) ?j7 ?e7 ?h7
          case j7 => exact ⟨⟨by omega, rfl, by rw [List.range_succ, List.map_append]; exact ho2, fun i hi => by
            rcases Nat.lt_or_ge i j with h | h
            · exact hlt i h
            · have : i = j := by omega
              subst this; exact hns⟩, by dsimp only; omega⟩
          case e7 => repeat (first | exact Env.Le.nil _ | refine Env.Le.cons rfl ?_)
          case h7 => repeat (first | exact Sub.heap_nil _ | exact Sub.refl _ | refine Sub.heap_cons (by repeat (first | exact Take.head _ _ | apply Take.tail)) ?_)
  case cut6_2 =>
    rintro ⟨j, v, ch⟩ ⟨hj, ho, hsz⟩; dsimp only at hj ho hsz; obtain ⟨A, cp, rfl, hA, hc⟩ := OwnS.val ho
    refine CW.seq ?_
    refine CW.region ?_
    refine LW.move rfl rfl ?_
    refine LW.lenSlice rfl Tryd.underlying26 rfl ?_
    refine LW.convInt (((UInt8.ofNat j).toNat : Int)) rfl Tryd.underlying3 Tryd.underlying5 ((by rw [show ((List.range j).map (byteZ n)).length = j by simp]; exact wrap_u8_nat j hj)) rfl ?_
    refine LW.buildSlice (vs := [_]) ⟨rfl, trivial⟩ rfl (by intro v hv; simp at hv; subst hv; rfl) Tryd.underlying26 FactsRef1.info5 rfl (by decide) (by decide) rfl ?_
    intro bs51
    refine LW.move rfl rfl ?_
    refine LW.append (((List.range j).map (byteZ n)).map u8v) rfl rfl Tryd.underlying26 Tryd.underlying26 (.inr ⟨_, rfl⟩) FactsRef1.info5 rfl ((OwnS.row rfl : OwnS 5 1 (.slice (some ⟨bs51, 0, none⟩) 1 1) 1 [.int .u8 ((UInt8.ofNat j).toNat : Int)] [cr bs51 5 [.int .u8 ((UInt8.ofNat j).toNat : Int)]])) (by repeat (first | exact Take.head _ _ | apply Take.tail)) (fun _ => lenOf_slice _ _ _ _) (first_rd ((OwnS.src (W := W) (B := B) ho).rd (by repeat (first | exact Take.head _ _ | apply Take.tail))) (by simp) hA) (by simp) (u8vs_one _) (by simp; omega) (by simp; omega) rfl ?_
    intro v2 ch2 ho2; replace ho2 := OwnB.app (bs := [UInt8.ofNat j]) ho2 rfl rfl
    refine LW.assign rfl rfl ?_
    refine LW.nil ?_
    refine NW.then_ ?_
    refine CW.ret ?_
    refine NW.ret1 rfl rfl ⟨_, ⟨ch2, by rw [encZ, hsz]; exact ho2, rfl⟩, ?_⟩
    exact Sub.one (by repeat (first | exact Take.head _ _ | apply Take.tail))
end
end Go.Proofs.YtmgpldgldgdenaaDoor
