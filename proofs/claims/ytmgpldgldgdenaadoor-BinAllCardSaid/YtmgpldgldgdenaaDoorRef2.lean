/-
  THE DOCUMENT's TEXTS AND ITS READER OF NUMBERS: their contracts.
-/
import Derived.Test.YtmgpldgldgdenaaDoorRef1
import Derived.Test.YtmgpldgldgdenaaDoorRefGet
import Derived.Test.YtmgpldgldgdenaaDoorAuto
namespace Go.Proofs.YtmgpldgldgdenaaDoor
open Go.RowKit
namespace FactsRef2
theorem fname25 : (Tryd.f25.name == "runtime.NumGoroutine") = false := by kernel_rfl
theorem info5 : (Tryd.prog.info? 5).map (fun i => (i.zero, i.size, i.bytes)) = some (some (.int .u8 0), 1, 1) := by kernel_rfl
theorem ixs26 : (Tryd.prog.info? 5).map (·.size) = some 1 := by kernel_rfl
theorem one5 : oneB Tryd.prog 5 = true := by kernel_rfl
end FactsRef2
section
variable (W : World) (B : Nat)
theorem ref_Text (s : List UInt8) (hb : s.length ≤ 100000000) : Spec Tryd.prog W B 28 [strV s] [] (fun v post => ∃ ch, OwnB v (encT s) ch ∧ post = ch) := by
  have hI : I64 (s.length : Int) := ⟨by omega, by omega⟩
  have hel := sizeZ_le (s.length : Int)
  refine Spec.enter ([]) Tryd.func28 rfl Tryd.ntmps28 rfl (by first | rfl | simp) (fun w0 => ?_)
  refine CW.seq ?_
  refine CW.region ?_
  refine LW.assign rfl rfl ?_
  refine LW.nil ?_
  refine NW.then_ ?_
  refine CW.seq ?_
  refine CW.region ?_
  refine LW.move rfl rfl ?_
  refine LW.lenString rfl Tryd.underlying9 rfl ?_
  refine LW.call (ref_Int W B (s.length : Int) hI) Tryd.func25 rfl FactsRef2.fname25 ⟨rfl, trivial⟩ (Take.none _) rfl ?_
  rintro v _ ⟨ch, ho, rfl⟩
  refine LW.move rfl rfl ?_
  refine LW.append (s.map u8v) rfl rfl Tryd.underlying26 Tryd.underlying9 (.inl rfl) FactsRef2.info5 rfl (ho) (by repeat (first | exact Take.head _ _ | apply Take.tail)) (fun _ => lenOf_string _ _) (fun w' _ => first_string _ _) (by simp [ByteArray.size]) (u8vs_one _) (by simp only [List.size_toArray, ByteArray.size, encZ_len]; omega) (by simp only [List.size_toArray, ByteArray.size, encZ_len]; omega) rfl ?_
  intro v4 ch4 ho4; replace ho4 := OwnB.app ho4 rfl rfl
  refine LW.assign rfl rfl ?_
  refine LW.nil ?_
  refine NW.then_ ?_
  refine CW.ret ?_
  refine NW.ret1 rfl rfl ⟨_, ⟨ch4, ho4, rfl⟩, ?_⟩
  exact Sub.one (by repeat (first | exact Take.head _ _ | apply Take.tail))

theorem ref_GetInt (src : List Row) (A : Option Addr) (cp : Nat) (bs : List UInt8) (hsrc : Src W B src A (bs.map u8v)) (hb : bs.length ≤ 1000000000) :
    Spec Tryd.prog W B 35 [.slice A bs.length cp] src (fun v post => v = .tuple #[.int .i64 (gotZ bs).1, .int .i64 (gotZ bs).2] ∧ post = src) := by
  have hget : ∀ i, i < bs.length → (bs.map u8v)[i]? = some (.int .u8 ((bs.getD i 0).toNat : Int)) := fun i hi => by simp [List.getD, List.getElem?_eq_getElem hi, u8v]
  refine Spec.enter ([src]) Tryd.func35 rfl Tryd.ntmps35 rfl (by first | rfl | simp) (fun w0 => ?_)
  refine CW.seq ?_
  refine CW.region ?_
  refine LW.assign rfl rfl ?_
  refine LW.assign rfl rfl ?_
  refine LW.nil ?_
  refine NW.then_ ?_
  refine CW.seq ?_
  refine CW.seq ?_
  refine CW.region ?_
  refine LW.move rfl rfl ?_
  refine LW.lenSlice rfl Tryd.underlying26 rfl ?_
  by_cases hb0 : bs.length = 0
  · refine LW.eql true rfl rfl (beq_iff_eq.2 (by omega)) rfl ?_
    refine LW.move rfl rfl ?_
    refine LW.off 10 rfl rfl rfl rfl ?_
    refine LW.off 10 rfl rfl rfl rfl ?_
    refine LW.off 10 rfl rfl rfl rfl ?_
    refine LW.off 10 rfl rfl rfl rfl ?_
    refine LW.pickT rfl rfl rfl ?_
    refine LW.move rfl rfl ?_
    refine LW.off 16 rfl rfl rfl rfl ?_
    refine LW.off 16 rfl rfl rfl rfl ?_
    refine LW.off 16 rfl rfl rfl rfl ?_
    refine LW.off 16 rfl rfl rfl rfl ?_
    refine LW.off 16 rfl rfl rfl rfl ?_
    refine LW.off 16 rfl rfl rfl rfl ?_
    refine LW.off 16 rfl rfl rfl rfl ?_
    refine LW.off 16 rfl rfl rfl rfl ?_
    refine LW.pickT rfl rfl rfl ?_
    refine LW.nil ?_
    refine NW.then_ ?_
    refine CW.cond_true rfl ?_
    refine CW.seq ?_
    have hgz : gotZ bs = (0, 0) := by rw [gotZ, getZ, if_pos hb0]
    refine CW.region ?_
    refine LW.assign rfl rfl ?_
    refine LW.assign rfl rfl ?_
    refine LW.nil ?_
    refine NW.then_ ?_
    refine CW.ret ?_
    refine NW.then_ret ?_
    refine NW.ret2 rfl rfl rfl ⟨_, ⟨by rw [hgz], rfl⟩, ?_⟩
    exact Sub.one (by repeat (first | exact Take.head _ _ | apply Take.tail))
  · refine LW.eql false rfl rfl (beq_eq_false_iff_ne.2 (by omega)) rfl ?_
    refine LW.move rfl rfl ?_
    refine LW.on 10 rfl rfl ?_
    refine LW.move rfl rfl ?_
    refine LW.on 10 rfl rfl ?_
    obtain ⟨a, rfl⟩ : ∃ a, A = some a := hsrc.some (by rw [List.length_map]; omega)
    refine LW.indexAt rfl rfl Tryd.underlying26 FactsRef2.ixs26 (by omega) (by omega) rfl ?_
    refine LW.on 10 rfl rfl ?_
    refine LW.loadRd (v := .int .u8 ((bs.getD 0 0).toNat : Int)) rfl (hsrc.rd (by repeat (first | exact Take.head _ _ | apply Take.tail))) (hget 0 (by omega)) FactsRef2.one5 rfl ?_
    by_cases hb8 : 8 < (bs.getD 0 0).toNat
    · refine LW.on 10 rfl rfl ?_
      refine LW.gtr true rfl rfl (decide_eq_true (by omega)) rfl ?_
      refine LW.pickF rfl rfl rfl ?_
      refine LW.move rfl rfl ?_
      refine LW.off 16 rfl rfl rfl rfl ?_
      refine LW.off 16 rfl rfl rfl rfl ?_
      refine LW.off 16 rfl rfl rfl rfl ?_
      refine LW.off 16 rfl rfl rfl rfl ?_
      refine LW.off 16 rfl rfl rfl rfl ?_
      refine LW.off 16 rfl rfl rfl rfl ?_
      refine LW.off 16 rfl rfl rfl rfl ?_
      refine LW.off 16 rfl rfl rfl rfl ?_
      refine LW.pickT rfl rfl rfl ?_
      refine LW.nil ?_
      refine NW.then_ ?_
      refine CW.cond_true rfl ?_
      refine CW.seq ?_
      have hgz : gotZ bs = (0, 0) := by rw [gotZ, getZ, if_neg hb0, if_pos hb8]
      refine CW.region ?_
      refine LW.assign rfl rfl ?_
      refine LW.assign rfl rfl ?_
      refine LW.nil ?_
      refine NW.then_ ?_
      refine CW.ret ?_
      refine NW.then_ret ?_
      refine NW.ret2 rfl rfl rfl ⟨_, ⟨by rw [hgz], rfl⟩, ?_⟩
      exact Sub.one (by repeat (first | exact Take.head _ _ | apply Take.tail))
    · refine LW.on 10 rfl rfl ?_
      refine LW.gtr false rfl rfl (decide_eq_false (by omega)) rfl ?_
      refine LW.pickF rfl rfl rfl ?_
      refine LW.move rfl rfl ?_
      refine LW.on 16 rfl rfl ?_
      refine LW.move rfl rfl ?_
      refine LW.on 16 rfl rfl ?_
      refine LW.indexAt rfl rfl Tryd.underlying26 FactsRef2.ixs26 (by omega) (by omega) rfl ?_
      refine LW.on 16 rfl rfl ?_
      refine LW.loadRd (v := .int .u8 ((bs.getD 0 0).toNat : Int)) rfl (hsrc.rd (by repeat (first | exact Take.head _ _ | apply Take.tail))) (hget 0 (by omega)) FactsRef2.one5 rfl ?_
      refine LW.on 16 rfl rfl ?_
      refine LW.convInt (((bs.getD 0 0).toNat : Int)) rfl Tryd.underlying5 Tryd.underlying3 (by first | rfl | exact wr64 (by omega) (by omega) (by omega)) rfl ?_
      refine LW.on 16 rfl rfl ?_
      refine LW.move rfl rfl ?_
      refine LW.on 16 rfl rfl ?_
      refine LW.lenSlice rfl Tryd.underlying26 rfl ?_
      refine LW.on 16 rfl rfl ?_
      refine LW.sub64 rfl rfl (by omega) (by omega) rfl ?_
      by_cases hlk : bs.length ≤ (bs.getD 0 0).toNat
      · refine LW.on 16 rfl rfl ?_
        refine LW.gtr true rfl rfl (decide_eq_true (by omega)) rfl ?_
        refine LW.pickF rfl rfl rfl ?_
        refine LW.nil ?_
        refine NW.then_ ?_
        refine CW.cond_true rfl ?_
        refine CW.seq ?_
        have hgz : gotZ bs = (0, 0) := by rw [gotZ, getZ, if_neg hb0, if_neg hb8, if_pos hlk]
        refine CW.region ?_
        refine LW.assign rfl rfl ?_
        refine LW.assign rfl rfl ?_
        refine LW.nil ?_
        refine NW.then_ ?_
        refine CW.ret ?_
        refine NW.then_ret ?_
        refine NW.ret2 rfl rfl rfl ⟨_, ⟨by rw [hgz], rfl⟩, ?_⟩
        exact Sub.one (by repeat (first | exact Take.head _ _ | apply Take.tail))
      · refine LW.on 16 rfl rfl ?_
        refine LW.gtr false rfl rfl (decide_eq_false (by omega)) rfl ?_
        refine LW.pickF rfl rfl rfl ?_
        refine LW.nil ?_
        refine NW.then_ ?_
        refine CW.cond_false rfl ?_
        refine CW.skip ?_
        refine NW.then_ ?_
        refine CW.seq ?_
        refine CW.region ?_
        refine LW.move rfl rfl ?_
        refine LW.indexAt rfl rfl Tryd.underlying26 FactsRef2.ixs26 (by omega) (by omega) rfl ?_
        refine LW.loadRd (v := .int .u8 ((bs.getD 0 0).toNat : Int)) rfl (hsrc.rd (by repeat (first | exact Take.head _ _ | apply Take.tail))) (hget 0 (by omega)) FactsRef2.one5 rfl ?_
        refine LW.convInt (((bs.getD 0 0).toNat : Int)) rfl Tryd.underlying5 Tryd.underlying3 (by first | rfl | exact wr64 (by omega) (by omega) (by omega)) rfl ?_
        refine LW.assign rfl rfl ?_
        refine LW.nil ?_
        refine NW.then_ ?_
        refine CW.seq ?_
        generalize hk : (bs.getD 0 0).toNat = k at *
        refine CW.region ?_
        refine LW.assign rfl rfl ?_
        refine LW.nil ?_
        refine NW.then_ ?_
        refine CW.seq ?_
        refine CW.seq ?_
        refine CW.region ?_
        refine LW.move rfl rfl ?_
        refine LW.assign rfl rfl ?_
        refine LW.nil ?_
        refine NW.then_ ?_
        refine CW.block ?_
        refine CW.loop (fun j : Nat => [(6, .int .i64 ((k : Int) - (j : Int))), (5, .int .i64 (IntKind.i64.wrap (hiZ bs k j : Int))), (4, .int .i64 (k : Int)), (0, .slice (some a) bs.length cp)]) (fun _ => [src]) (fun j => j ≤ k) (fun j => k - j) 0 ?st6_j ?st6_e ?st6_h ?st6_r
        case st6_j => exact Nat.zero_le _
        case st6_e => repeat (first | exact Env.Le.nil _ | refine Env.Le.cons rfl ?_)
        case st6_h => repeat (first | exact Sub.heap_nil _ | exact Sub.refl _ | refine Sub.heap_cons (by repeat (first | exact Take.head _ _ | apply Take.tail)) ?_)
        case st6_r =>
          intro j hj
          try dsimp only
          refine CW.seq ?_
          refine CW.seq ?_
          refine CW.region ?_
          refine LW.move rfl rfl ?_
          refine LW.gtr _ rfl rfl rfl rfl ?_
          refine LW.nil ?_
          refine NW.then_ ?_
          refine CW.cond rfl (fun hc32 => ?_) (fun hc32 => ?_)
          · replace hc32 := of_decide_eq_true hc32
            try dsimp only at hc32
            refine CW.skip ?_
            refine NW.then_ ?_
            refine CW.seq ?_
            refine CW.block ?_
            refine CW.region ?_
            refine LW.move rfl rfl ?_
            refine LW.mul (IntKind.i64.wrap (IntKind.i64.wrap (hiZ bs k j : Int) * 256)) rfl rfl (rfl) rfl ?_
            refine LW.move rfl rfl ?_
            refine LW.move rfl rfl ?_
            refine LW.indexAt rfl rfl Tryd.underlying26 FactsRef2.ixs26 (by omega) (by omega) rfl ?_
            refine LW.loadRd (v := .int .u8 ((bs.getD (k - j) 0).toNat : Int)) rfl (hsrc.rd (by repeat (first | exact Take.head _ _ | apply Take.tail))) (by rw [show ((k : Int) - (j : Int)).toNat * 1 = k - j by omega]; exact hget (k - j) (by omega)) FactsRef2.one5 rfl ?_
            refine LW.convInt (((bs.getD (k - j) 0).toNat : Int)) rfl Tryd.underlying5 Tryd.underlying2 ((by have := (bs.getD (k - j) 0).toNat_lt; exact wr64 rfl (by omega) (by omega))) rfl ?_
            refine LW.add (IntKind.i64.wrap (hiZ bs k (j + 1) : Int)) rfl rfl (hi_mul _ _) rfl ?_
            refine LW.assign rfl rfl ?_
            refine LW.nil ?_
            refine NW.block ?_
            refine NW.then_ ?_
            refine CW.region ?_
            refine LW.move rfl rfl ?_
            refine LW.sub (((k : Int) - ((j + 1 : Nat) : Int))) rfl rfl (by first | rfl | exact wr64 (by omega) (by omega) (by omega)) rfl ?_
            refine LW.assign rfl rfl ?_
            refine LW.nil ?_
            refine NW.meet (j + 1) ?j1 ?e1 ?h1
            case j1 => exact ⟨by omega, by omega⟩
            case e1 => repeat (first | exact Env.Le.nil _ | refine Env.Le.cons rfl ?_)
            case h1 => repeat (first | exact Sub.heap_nil _ | exact Sub.refl _ | refine Sub.heap_cons (by repeat (first | exact Take.head _ _ | apply Take.tail)) ?_)
          · replace hc32 := of_decide_eq_false hc32
            try dsimp only at hc32
            have hjk : j = k := by omega
            subst hjk
            refine CW.exit ?_
            refine NW.then_exit ?_
            refine NW.then_exit ?_
            refine NW.block_exit ?_
            refine NW.then_ ?_
            refine CW.cut (fun _ : Unit => [(5, .int .i64 (numZ bs j)), (4, .int .i64 (j : Int)), (0, .slice (some a) bs.length cp)]) (fun _ => [src]) (fun _ => True) ?cut11_1 ?cut11_2
            case cut11_1 =>
              refine CW.seq ?_
              rw [hiZ_all]
              have hnr := numZ_ref bs j (by omega)
              have hs8 := sumZ_lt bs j
              refine CW.region ?_
              refine LW.move rfl rfl ?_
              by_cases hj0 : 0 < j
              · refine LW.gtr true rfl rfl (decide_eq_true (by omega)) rfl ?_
                refine LW.move rfl rfl ?_
                refine LW.on 45 rfl rfl ?_
                refine LW.move rfl rfl ?_
                by_cases hj8 : j < 8
                · refine LW.on 45 rfl rfl ?_
                  refine LW.lss true rfl rfl (decide_eq_true (by omega)) rfl ?_
                  refine LW.pickT rfl rfl rfl ?_
                  refine LW.move rfl rfl ?_
                  refine LW.on 49 rfl rfl ?_
                  refine LW.move rfl rfl ?_
                  refine LW.on 49 rfl rfl ?_
                  refine LW.move rfl rfl ?_
                  refine LW.on 49 rfl rfl ?_
                  refine LW.indexAt rfl rfl Tryd.underlying26 FactsRef2.ixs26 (by omega) (by omega) rfl ?_
                  refine LW.on 49 rfl rfl ?_
                  refine LW.loadRd (v := .int .u8 ((bs.getD j 0).toNat : Int)) rfl (hsrc.rd (by repeat (first | exact Take.head _ _ | apply Take.tail))) (by rw [Int.toNat_natCast, Nat.mul_one]; exact hget j (by omega)) FactsRef2.one5 rfl ?_
                  by_cases hj9 : 128 ≤ (bs.getD j 0).toNat
                  · refine LW.on 49 rfl rfl ?_
                    refine LW.geq true rfl rfl (decide_eq_true (by omega)) rfl ?_
                    refine LW.pickT rfl rfl rfl ?_
                    refine LW.nil ?_
                    refine NW.then_ ?_
                    refine CW.cond_true rfl ?_
                    have hp : (2 : Int) ^ (8 * j) = ((2 ^ (8 * j) : Nat) : Int) := by rw [Int.natCast_pow]; rfl
                    rw [if_pos ((negB_iff bs j).2 ⟨hj0, hj8, hj9⟩)] at hnr
                    have hp56 : (2 : Nat) ^ (8 * j) ≤ 72057594037927936 := Nat.pow_le_pow_right (n := 2) (by decide) (show 8 * j ≤ 56 by omega)
                    have hw : IntKind.i64.wrap (sumZ bs j : Int) = (sumZ bs j : Int) := wr64 rfl (by omega) (by omega)
                    refine CW.region ?_
                    refine LW.move rfl rfl ?_
                    refine LW.move rfl rfl ?_
                    refine LW.mul64 rfl rfl (by omega) (by omega) rfl ?_
                    refine LW.convInt ((8 * j : Int)) rfl Tryd.underlying3 Tryd.underlying94 (wru64 rfl (by omega) (by omega)) rfl ?_
                    refine LW.shl ((2 ^ (8 * j) : Int)) rfl rfl (by omega) ((by rw [show min (8 * (j : Int)).toNat IntKind.i64.bits = 8 * j from by show min (8 * (j : Int)).toNat 64 = 8 * j; omega, Int.one_mul, hp]; exact wr64 rfl (by omega) (by omega))) rfl ?_
                    refine LW.sub (numZ bs j) rfl rfl ((by rw [hnr, hw, hp]; exact wr64 rfl (by omega) (by omega))) rfl ?_
                    refine LW.assign rfl rfl ?_
                    refine LW.nil ?_
                    refine NW.meet (()) ?j2 ?e2 ?h2
                    case j2 => exact trivial
                    case e2 => repeat (first | exact Env.Le.nil _ | refine Env.Le.cons rfl ?_)
                    case h2 => repeat (first | exact Sub.heap_nil _ | exact Sub.refl _ | refine Sub.heap_cons (by repeat (first | exact Take.head _ _ | apply Take.tail)) ?_)
                  · refine LW.on 49 rfl rfl ?_
                    refine LW.geq false rfl rfl (decide_eq_false (by omega)) rfl ?_
                    refine LW.pickT rfl rfl rfl ?_
                    refine LW.nil ?_
                    refine NW.then_ ?_
                    refine CW.cond_false rfl ?_
                    refine CW.skip ?_
                    refine NW.meet (()) ?j3 ?e3 ?h3
                    case j3 => exact trivial
                    case e3 => rw [if_neg (fun h => hj9 ((negB_iff bs j).1 h).2.2)] at hnr; rw [hnr]; repeat (first | exact Env.Le.nil _ | refine Env.Le.cons rfl ?_)
                    case h3 => repeat (first | exact Sub.heap_nil _ | exact Sub.refl _ | refine Sub.heap_cons (by repeat (first | exact Take.head _ _ | apply Take.tail)) ?_)
                · refine LW.on 45 rfl rfl ?_
                  refine LW.lss false rfl rfl (decide_eq_false (by omega)) rfl ?_
                  refine LW.pickT rfl rfl rfl ?_
                  refine LW.move rfl rfl ?_
                  refine LW.off 49 rfl rfl rfl rfl ?_
                  refine LW.off 49 rfl rfl rfl rfl ?_
                  refine LW.off 49 rfl rfl rfl rfl ?_
                  refine LW.off 49 rfl rfl rfl rfl ?_
                  refine LW.off 49 rfl rfl rfl rfl ?_
                  refine LW.pickF rfl rfl rfl ?_
                  refine LW.nil ?_
                  refine NW.then_ ?_
                  refine CW.cond_false rfl ?_
                  refine CW.skip ?_
                  refine NW.meet (()) ?j4 ?e4 ?h4
                  case j4 => exact trivial
                  case e4 => rw [if_neg (fun h => hj8 ((negB_iff bs j).1 h).2.1)] at hnr; rw [hnr]; repeat (first | exact Env.Le.nil _ | refine Env.Le.cons rfl ?_)
                  case h4 => repeat (first | exact Sub.heap_nil _ | exact Sub.refl _ | refine Sub.heap_cons (by repeat (first | exact Take.head _ _ | apply Take.tail)) ?_)
              · refine LW.gtr false rfl rfl (decide_eq_false (by omega)) rfl ?_
                refine LW.move rfl rfl ?_
                refine LW.off 45 rfl rfl rfl rfl ?_
                refine LW.off 45 rfl rfl rfl rfl ?_
                refine LW.pickF rfl rfl rfl ?_
                refine LW.move rfl rfl ?_
                refine LW.off 49 rfl rfl rfl rfl ?_
                refine LW.off 49 rfl rfl rfl rfl ?_
                refine LW.off 49 rfl rfl rfl rfl ?_
                refine LW.off 49 rfl rfl rfl rfl ?_
                refine LW.off 49 rfl rfl rfl rfl ?_
                refine LW.pickF rfl rfl rfl ?_
                refine LW.nil ?_
                refine NW.then_ ?_
                refine CW.cond_false rfl ?_
                refine CW.skip ?_
                refine NW.meet (()) ?j5 ?e5 ?h5
                case j5 => exact trivial
                case e5 => rw [if_neg (fun h => hj0 ((negB_iff bs j).1 h).1)] at hnr; rw [hnr]; repeat (first | exact Env.Le.nil _ | refine Env.Le.cons rfl ?_)
                case h5 => repeat (first | exact Sub.heap_nil _ | exact Sub.refl _ | refine Sub.heap_cons (by repeat (first | exact Take.head _ _ | apply Take.tail)) ?_)
            case cut11_2 =>
              rintro ⟨⟩ _
              try dsimp only
              refine CW.seq ?_
              refine CW.seq ?_
              refine CW.region ?_
              refine LW.move rfl rfl ?_
              have hnI : I64 (numZ bs j) := numZ_I64 bs j (by omega)
              refine LW.call (ref_Int W B (numZ bs j) hnI) Tryd.func25 rfl FactsRef2.fname25 ⟨rfl, trivial⟩ (Take.none _) rfl ?_
              rintro v _ ⟨ch, ho, rfl⟩; obtain ⟨A4, cp4, rfl, _, _⟩ := OwnS.val ho
              refine LW.lenSlice rfl Tryd.underlying26 rfl ?_
              refine LW.move rfl rfl ?_
              refine LW.add64 rfl rfl (by omega) (by omega) rfl ?_
              by_cases hsz : sizeZ (numZ bs j) = j
              · refine LW.neq false rfl rfl (bne_eq_false_iff_eq.2 (by rw [encZ_len, hsz]; omega)) rfl ?_
                refine LW.nil ?_
                refine NW.then_ ?_
                refine CW.cond_false rfl ?_
                refine CW.skip ?_
                refine NW.then_ ?_
                refine CW.seq ?_
                have hgz : gotZ bs = (numZ bs j, (j : Int) + 1) := by rw [gotZ, getZ, if_neg hb0, hk, if_neg hb8, if_neg hlk, if_pos hsz]; rfl
                refine CW.region ?_
                refine LW.move rfl rfl ?_
                refine LW.move rfl rfl ?_
                refine LW.add64 rfl rfl (by omega) (by omega) rfl ?_
                refine LW.assign rfl rfl ?_
                refine LW.assign rfl rfl ?_
                refine LW.nil ?_
                refine NW.then_ ?_
                refine CW.ret ?_
                refine NW.ret2 rfl rfl rfl ⟨_, ⟨by rw [hgz], rfl⟩, ?_⟩
                exact Sub.one (by repeat (first | exact Take.head _ _ | apply Take.tail))
              · refine LW.neq true rfl rfl (bne_iff_ne.2 (by rw [encZ_len]; omega)) rfl ?_
                refine LW.nil ?_
                refine NW.then_ ?_
                refine CW.cond_true rfl ?_
                refine CW.seq ?_
                have hgz : gotZ bs = (0, 0) := by rw [gotZ, getZ, if_neg hb0, hk, if_neg hb8, if_neg hlk, if_neg hsz]
                refine CW.region ?_
                refine LW.assign rfl rfl ?_
                refine LW.assign rfl rfl ?_
                refine LW.nil ?_
                refine NW.then_ ?_
                refine CW.ret ?_
                refine NW.then_ret ?_
                refine NW.ret2 rfl rfl rfl ⟨_, ⟨by rw [hgz], rfl⟩, ?_⟩
                exact Sub.one (by repeat (first | exact Take.head _ _ | apply Take.tail))
end
end Go.Proofs.YtmgpldgldgdenaaDoor
