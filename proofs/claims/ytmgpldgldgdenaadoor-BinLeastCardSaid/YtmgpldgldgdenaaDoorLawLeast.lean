/-
  BinLeast, walked.
-/
import Derived.Test.YtmgpldgldgdenaaDoorLawText
import Derived.Test.YtmgpldgldgdenaaDoorLeastDef
import Derived.Test.YtmgpldgldgdenaaDoorUndef
namespace Go.Proofs.YtmgpldgldgdenaaDoor
open Go.RowKit
namespace FactsLawLeast
theorem fname16 : (Tryd.f16.name == "runtime.NumGoroutine") = false := by kernel_rfl
theorem fname24 : (Tryd.f24.name == "runtime.NumGoroutine") = false := by kernel_rfl
theorem fname29 : (Tryd.f29.name == "runtime.NumGoroutine") = false := by kernel_rfl
theorem fname30 : (Tryd.f30.name == "runtime.NumGoroutine") = false := by kernel_rfl
theorem fname31 : (Tryd.f31.name == "runtime.NumGoroutine") = false := by kernel_rfl
theorem fname32 : (Tryd.f32.name == "runtime.NumGoroutine") = false := by kernel_rfl
theorem info2 : (Tryd.prog.info? 2).map (fun i => (i.zero, i.size, i.bytes)) = some (some (.int .i64 0), 1, 8) := by kernel_rfl
theorem info5 : (Tryd.prog.info? 5).map (fun i => (i.zero, i.size, i.bytes)) = some (some (.int .u8 0), 1, 1) := by kernel_rfl
theorem ixs26 : (Tryd.prog.info? 5).map (·.size) = some 1 := by kernel_rfl
theorem one5 : oneB Tryd.prog 5 = true := by kernel_rfl
theorem sz5 : (Tryd.prog.info? 5).map (·.size) = some 1 := by kernel_rfl
theorem zero39 : (Tryd.prog.info? 39).bind (·.zero) = some (.agg #[.slice none 0 0]) := by kernel_rfl
end FactsLawLeast
theorem shl_one (k : Nat) (h1 : 1 ≤ k) (h7 : k ≤ 7) : IntKind.i64.wrap (1 * 2 ^ min (8 * (k : Int) - 1).toNat 64) = 2 ^ (8 * k - 1) := by
  rw [show min (8 * (k : Int) - 1).toNat 64 = 8 * k - 1 by omega]
  have h : k = 1 ∨ k = 2 ∨ k = 3 ∨ k = 4 ∨ k = 5 ∨ k = 6 ∨ k = 7 := by omega
  rcases h with rfl | rfl | rfl | rfl | rfl | rfl | rfl <;> decide
theorem neg_pow (k : Nat) (h1 : 1 ≤ k) (h7 : k ≤ 7) : IntKind.i64.wrap (-(2 ^ (8 * k - 1) : Int)) = -(2 ^ (8 * k - 1)) := by
  have h : k = 1 ∨ k = 2 ∨ k = 3 ∨ k = 4 ∨ k = 5 ∨ k = 6 ∨ k = 7 := by omega
  rcases h with rfl | rfl | rfl | rfl | rfl | rfl | rfl <;> decide
section
variable (W : World) (B : Nat)
theorem law_BinLeast (h0 : 0 < B) (hg : W.cell? ⟨0, 0, none⟩ = some (rty 80)) (n : Int) (hI : I64 n) :
    Spec Tryd.prog W B 5 [.int .i64 n] [] (fun v post => v = .bool true ∧ post = []) := by
  have hz := sizeZ_le n
  have hbs : [] ++ encs [n] = encZ n := by simp [encs]
  have hel := encZ_len n
  have hhead : (encZ n ++ []).getD 0 0 = UInt8.ofNat (sizeZ n) := rfl
  refine Spec.enter ([]) Tryd.func5 rfl Tryd.ntmps5 rfl (by first | rfl | simp) (fun w0 => ?_)
  refine CW.seq ?_
  refine CW.region ?_
  refine LW.assign rfl rfl ?_
  refine LW.nil ?_
  refine NW.then_ ?_
  refine CW.seq ?_
  refine CW.region ?_
  refine LW.call (law_begun W B h0 hg) Tryd.func16 rfl FactsLawLeast.fname16 trivial (Take.none _) rfl ?_
  rintro _ _ ⟨rfl, rfl⟩
  refine LW.assign rfl rfl ?_
  refine LW.nil ?_
  refine NW.then_ ?_
  refine CW.seq ?_
  refine CW.seq ?_
  refine CW.region ?_
  refine LW.move rfl rfl ?_
  refine LW.not (false) rfl (rfl) rfl ?_
  refine LW.nil ?_
  refine NW.then_ ?_
  refine CW.cond_false rfl ?_
  refine CW.skip ?_
  refine NW.then_ ?_
  refine CW.seq ?_
  refine CW.region ?_
  refine LW.alloc FactsLawLeast.zero39 rfl ?_
  intro ba4
  refine LW.nil ?_
  refine NW.then_ ?_
  refine CW.seq ?_
  refine CW.region ?_
  refine LW.move rfl rfl ?_
  refine LW.buildSlice (vs := [_]) ⟨rfl, trivial⟩ rfl (by intro v hv; simp at hv; subst hv; rfl) Tryd.underlying36 FactsLawLeast.info2 rfl (by decide) (by decide) rfl ?_
  intro bs15
  refine LW.call (bin_WInt W B ba4 (.slice none 0 0) [] [] OwnB.nil [n] (by intro m hm; simp at hm; subst hm; exact hI) [cr bs15 2 [.int .i64 n]] (some ⟨bs15, 0, none⟩) 1 (Src.row (fun j v hj => by rw [Nat.zero_add]; exact hj)) (by simp)) Tryd.func24 rfl FactsLawLeast.fname24 ⟨rfl, rfl, trivial⟩ (Take.both (by repeat (first | exact Take.head _ _ | apply Take.tail)) (Take.both (by repeat (first | exact Take.head _ _ | apply Take.tail)) (Take.none _))) rfl ?_
  rintro _ _ ⟨rfl, v2, ch2, ho2, rfl⟩; rw [hbs] at ho2; refine LW.split2 ?_
  refine LW.nil ?_
  refine NW.then_ ?_
  refine CW.seq ?_
  refine CW.region ?_
  refine LW.call (bin_WBytes W B ba4 v2 (encZ n) ch2 ho2 (by omega)) Tryd.func29 rfl FactsLawLeast.fname29 ⟨rfl, trivial⟩ (by repeat (first | exact Take.head _ _ | apply Take.tail)) rfl ?_
  rintro v3 _ ⟨ch3, ho3, rfl⟩; obtain ⟨A3, cp3, rfl, hA3, _⟩ := OwnS.val ho3; refine LW.split2 ?_
  refine LW.assign rfl rfl ?_
  refine LW.nil ?_
  refine NW.then_ ?_
  refine CW.seq ?_
  obtain ⟨a3, rfl⟩ : ∃ a, A3 = some a := by
    cases A3 with
    | none => have := hA3 rfl; omega
    | some a => exact ⟨a, rfl⟩
  have hs3 := OwnS.src (W := W) (B := B) ho3
  refine CW.region ?_
  refine LW.assign rfl rfl ?_
  refine LW.nil ?_
  refine NW.then_ ?_
  refine CW.cut (fun _ : Unit => [(6, .int .i64 (sizeZ n : Int)), (5, .slice (some a3) (encZ n).length cp3), (0, .int .i64 n)]) (fun _ => [ch3]) (fun _ => True) ?cut13_1 ?cut13_2
  case cut13_1 =>
    refine CW.seq ?_
    refine CW.region ?_
    refine LW.assign rfl rfl ?_
    refine LW.nil ?_
    refine NW.then_ ?_
    refine CW.block ?_
    refine CW.loop (fun st : Nat × Nat => [(7, .int .i64 (st.1 : Int)), (6, .int .i64 (st.2 : Int)), (5, .slice (some a3) (encZ n).length cp3), (0, .int .i64 n)]) (fun _ => [ch3]) (fun st => 1 ≤ st.1 ∧ st.1 ≤ 9 ∧ (st.2 = 0 → ∀ j, 1 ≤ j → j < st.1 → j ≠ 8 ∧ ¬ Fits n j) ∧ (st.2 ≠ 0 → n ≠ 0 ∧ st.2 = sizeZ n)) (fun st => 10 - st.1) (1, 0) ?st9_j ?st9_e ?st9_h ?st9_r
    case st9_j => exact ⟨Nat.le_refl _, by omega, fun _ j h1 h2 => by omega, fun h => absurd rfl h⟩
    case st9_e => repeat (first | exact Env.Le.nil _ | refine Env.Le.cons rfl ?_)
    case st9_h => repeat (first | exact Sub.heap_nil _ | exact Sub.refl _ | refine Sub.heap_cons (by repeat (first | exact Take.head _ _ | apply Take.tail)) ?_)
    case st9_r =>
      rintro ⟨k, want⟩ ⟨hk1, hk9, hlt, hwz⟩; dsimp only at hk1 hk9 hlt hwz
      refine CW.seq ?_
      refine CW.seq ?_
      refine CW.region ?_
      refine LW.move rfl rfl ?_
      by_cases hk8 : k ≤ 8
      · refine LW.leq true rfl rfl (decide_eq_true (by omega)) rfl ?_
        refine LW.move rfl rfl ?_
        refine LW.on 20 rfl rfl ?_
        refine LW.move rfl rfl ?_
        by_cases hw0 : want = 0
        · refine LW.on 20 rfl rfl ?_
          refine LW.eql true rfl rfl (beq_iff_eq.2 (by omega)) rfl ?_
          refine LW.pickT rfl rfl rfl ?_
          refine LW.move rfl rfl ?_
          refine LW.on 24 rfl rfl ?_
          refine LW.move rfl rfl ?_
          refine LW.on 24 rfl rfl ?_
          refine LW.neq (n != 0) rfl rfl (rfl) rfl ?_
          refine LW.pickT rfl rfl rfl ?_
          refine LW.nil ?_
          refine NW.then_ ?_
          refine CW.cond rfl (fun hc27 => ?_) (fun hc27 => ?_)
          · have hn0 : n ≠ 0 := by simpa using hc27
            refine CW.skip ?_
            refine NW.then_ ?_
            refine CW.seq ?_
            refine CW.block ?_
            refine CW.seq ?_
            refine CW.region ?_
            refine LW.move rfl rfl ?_
            by_cases hke : k = 8
            · refine LW.eql true rfl rfl (beq_iff_eq.2 (by omega)) rfl ?_
              refine LW.move rfl rfl ?_
              refine LW.off 32 rfl rfl rfl rfl ?_
              refine LW.off 32 rfl rfl rfl rfl ?_
              refine LW.off 32 rfl rfl rfl rfl ?_
              refine LW.off 32 rfl rfl rfl rfl ?_
              refine LW.off 32 rfl rfl rfl rfl ?_
              refine LW.off 32 rfl rfl rfl rfl ?_
              by_cases hlo : -(2 ^ (8 * k - 1) : Int) ≤ n
              · refine LW.off 32 rfl rfl rfl rfl ?_
                refine LW.off 32 rfl rfl rfl rfl ?_
                refine LW.offU 40 rfl rfl rfl ?_
                refine LW.offU 40 rfl rfl rfl ?_
                refine LW.offU 40 rfl rfl rfl ?_
                refine LW.offU 40 rfl rfl rfl ?_
                refine LW.offU 40 rfl rfl rfl ?_
                refine LW.offU 40 rfl rfl rfl ?_
                refine LW.off 32 rfl rfl rfl rfl ?_
                refine LW.pickT rfl rfl rfl ?_
                refine LW.nil ?_
                refine NW.then_ ?_
                refine CW.cond_true rfl ?_
                have hsz : sizeZ n = k := sizeZ_first hI hn0 hk1 hk8 (fun j h1 h2 => (hlt hw0 j h1 h2).2) (.inl hke)
                refine CW.region ?_
                refine LW.move rfl rfl ?_
                refine LW.assign rfl rfl ?_
                refine LW.nil ?_
                refine NW.block ?_
                refine NW.then_ ?_
                refine CW.region ?_
                refine LW.move rfl rfl ?_
                refine LW.add ((k + 1 : Int)) rfl rfl (by first | rfl | exact wr64 (by omega) (by omega) (by omega)) rfl ?_
                refine LW.assign rfl rfl ?_
                refine LW.nil ?_
                refine NW.meet ((k + 1, k)) ?j1 ?e1 ?h1
                case j1 => exact ⟨⟨by omega, by omega, fun h => by omega, fun _ => ⟨hn0, hsz.symm⟩⟩, by dsimp only; omega⟩
                case e1 => repeat (first | exact Env.Le.nil _ | refine Env.Le.cons rfl ?_)
                case h1 => repeat (first | exact Sub.heap_nil _ | exact Sub.refl _ | refine Sub.heap_cons (by repeat (first | exact Take.head _ _ | apply Take.tail)) ?_)
              · refine LW.off 32 rfl rfl rfl rfl ?_
                refine LW.off 32 rfl rfl rfl rfl ?_
                refine LW.offU 40 rfl rfl rfl ?_
                refine LW.offU 40 rfl rfl rfl ?_
                refine LW.offU 40 rfl rfl rfl ?_
                refine LW.offU 40 rfl rfl rfl ?_
                refine LW.offU 40 rfl rfl rfl ?_
                refine LW.offU 40 rfl rfl rfl ?_
                refine LW.off 32 rfl rfl rfl rfl ?_
                refine LW.pickT rfl rfl rfl ?_
                refine LW.nil ?_
                refine NW.then_ ?_
                refine CW.cond_true rfl ?_
                have hsz : sizeZ n = k := sizeZ_first hI hn0 hk1 hk8 (fun j h1 h2 => (hlt hw0 j h1 h2).2) (.inl hke)
                refine CW.region ?_
                refine LW.move rfl rfl ?_
                refine LW.assign rfl rfl ?_
                refine LW.nil ?_
                refine NW.block ?_
                refine NW.then_ ?_
                refine CW.region ?_
                refine LW.move rfl rfl ?_
                refine LW.add ((k + 1 : Int)) rfl rfl (by first | rfl | exact wr64 (by omega) (by omega) (by omega)) rfl ?_
                refine LW.assign rfl rfl ?_
                refine LW.nil ?_
                refine NW.meet ((k + 1, k)) ?j2 ?e2 ?h2
                case j2 => exact ⟨⟨by omega, by omega, fun h => by omega, fun _ => ⟨hn0, hsz.symm⟩⟩, by dsimp only; omega⟩
                case e2 => repeat (first | exact Env.Le.nil _ | refine Env.Le.cons rfl ?_)
                case h2 => repeat (first | exact Sub.heap_nil _ | exact Sub.refl _ | refine Sub.heap_cons (by repeat (first | exact Take.head _ _ | apply Take.tail)) ?_)
            · refine LW.eql false rfl rfl (beq_eq_false_iff_ne.2 (by omega)) rfl ?_
              refine LW.move rfl rfl ?_
              refine LW.on 32 rfl rfl ?_
              refine LW.move rfl rfl ?_
              refine LW.on 32 rfl rfl ?_
              refine LW.move rfl rfl ?_
              refine LW.on 32 rfl rfl ?_
              refine LW.mul ((8 * k : Int)) rfl rfl (by first | rfl | exact wr64 (by omega) (by omega) (by omega)) rfl ?_
              refine LW.on 32 rfl rfl ?_
              refine LW.sub ((8 * k - 1 : Int)) rfl rfl (by first | rfl | exact wr64 (by omega) (by omega) (by omega)) rfl ?_
              refine LW.on 32 rfl rfl ?_
              refine LW.shl ((2 ^ (8 * k - 1) : Int)) rfl rfl (by omega) (shl_one k hk1 (by omega)) rfl ?_
              refine LW.on 32 rfl rfl ?_
              refine LW.neg (-(2 ^ (8 * k - 1) : Int)) rfl (neg_pow k hk1 (by omega)) rfl ?_
              by_cases hlo : -(2 ^ (8 * k - 1) : Int) ≤ n
              · refine LW.on 32 rfl rfl ?_
                refine LW.geq true rfl rfl (decide_eq_true hlo) rfl ?_
                refine LW.on 32 rfl rfl ?_
                refine LW.move rfl rfl ?_
                refine LW.on 40 rfl rfl ?_
                refine LW.move rfl rfl ?_
                refine LW.on 40 rfl rfl ?_
                refine LW.move rfl rfl ?_
                refine LW.on 40 rfl rfl ?_
                refine LW.mul ((8 * k : Int)) rfl rfl (by first | rfl | exact wr64 (by omega) (by omega) (by omega)) rfl ?_
                refine LW.on 40 rfl rfl ?_
                refine LW.sub ((8 * k - 1 : Int)) rfl rfl (by first | rfl | exact wr64 (by omega) (by omega) (by omega)) rfl ?_
                refine LW.on 40 rfl rfl ?_
                refine LW.shl ((2 ^ (8 * k - 1) : Int)) rfl rfl (by omega) (shl_one k hk1 (by omega)) rfl ?_
                refine LW.on 40 rfl rfl ?_
                refine LW.lss (decide (n < 2 ^ (8 * k - 1))) rfl rfl (rfl) rfl ?_
                refine LW.on 32 rfl rfl ?_
                refine LW.pickT rfl rfl rfl ?_
                refine LW.pickF rfl rfl rfl ?_
                refine LW.nil ?_
                refine NW.then_ ?_
                refine CW.cond rfl (fun hc48 => ?_) (fun hc48 => ?_)
                · have hsz : sizeZ n = k := sizeZ_first hI hn0 hk1 hk8 (fun j h1 h2 => (hlt hw0 j h1 h2).2) (.inr ⟨hlo, of_decide_eq_true hc48⟩)
                  refine CW.region ?_
                  refine LW.move rfl rfl ?_
                  refine LW.assign rfl rfl ?_
                  refine LW.nil ?_
                  refine NW.block ?_
                  refine NW.then_ ?_
                  refine CW.region ?_
                  refine LW.move rfl rfl ?_
                  refine LW.add ((k + 1 : Int)) rfl rfl (by first | rfl | exact wr64 (by omega) (by omega) (by omega)) rfl ?_
                  refine LW.assign rfl rfl ?_
                  refine LW.nil ?_
                  refine NW.meet ((k + 1, k)) ?j3 ?e3 ?h3
                  case j3 => exact ⟨⟨by omega, by omega, fun h => by omega, fun _ => ⟨hn0, hsz.symm⟩⟩, by dsimp only; omega⟩
                  case e3 => repeat (first | exact Env.Le.nil _ | refine Env.Le.cons rfl ?_)
                  case h3 => repeat (first | exact Sub.heap_nil _ | exact Sub.refl _ | refine Sub.heap_cons (by repeat (first | exact Take.head _ _ | apply Take.tail)) ?_)
                · have hnf : ¬ Fits n k := fun hh => absurd hh.2 (of_decide_eq_false hc48)
                  refine CW.skip ?_
                  refine NW.block ?_
                  refine NW.then_ ?_
                  refine CW.region ?_
                  refine LW.move rfl rfl ?_
                  refine LW.add ((k + 1 : Int)) rfl rfl (by first | rfl | exact wr64 (by omega) (by omega) (by omega)) rfl ?_
                  refine LW.assign rfl rfl ?_
                  refine LW.nil ?_
                  refine NW.meet ((k + 1, want)) ?j4 ?e4 ?h4
                  case j4 => exact ⟨⟨by omega, by omega, fun _ j h1 h2 => by
                    rcases Nat.lt_or_ge j k with h | h
                    · exact hlt hw0 j h1 h
                    · have : j = k := by omega
                      subst this; exact ⟨hke, hnf⟩, fun h => absurd hw0 h⟩, by dsimp only; omega⟩
                  case e4 => repeat (first | exact Env.Le.nil _ | refine Env.Le.cons rfl ?_)
                  case h4 => repeat (first | exact Sub.heap_nil _ | exact Sub.refl _ | refine Sub.heap_cons (by repeat (first | exact Take.head _ _ | apply Take.tail)) ?_)
              · refine LW.on 32 rfl rfl ?_
                refine LW.geq false rfl rfl (decide_eq_false hlo) rfl ?_
                refine LW.on 32 rfl rfl ?_
                refine LW.move rfl rfl ?_
                refine LW.off 40 rfl rfl rfl rfl ?_
                refine LW.off 40 rfl rfl rfl rfl ?_
                refine LW.off 40 rfl rfl rfl rfl ?_
                refine LW.off 40 rfl rfl rfl rfl ?_
                refine LW.off 40 rfl rfl rfl rfl ?_
                refine LW.off 40 rfl rfl rfl rfl ?_
                refine LW.on 32 rfl rfl ?_
                refine LW.pickF rfl rfl rfl ?_
                refine LW.pickF rfl rfl rfl ?_
                refine LW.nil ?_
                refine NW.then_ ?_
                refine CW.cond_false rfl ?_
                refine CW.skip ?_
                refine NW.block ?_
                refine NW.then_ ?_
                refine CW.region ?_
                refine LW.move rfl rfl ?_
                refine LW.add ((k + 1 : Int)) rfl rfl (by first | rfl | exact wr64 (by omega) (by omega) (by omega)) rfl ?_
                refine LW.assign rfl rfl ?_
                refine LW.nil ?_
                refine NW.meet ((k + 1, want)) ?j5 ?e5 ?h5
                case j5 => exact ⟨⟨by omega, by omega, fun _ j h1 h2 => by
                  rcases Nat.lt_or_ge j k with h | h
                  · exact hlt hw0 j h1 h
                  · have : j = k := by omega
                    subst this; exact ⟨hke, fun hh => hlo hh.1⟩, fun h => absurd hw0 h⟩, by dsimp only; omega⟩
                case e5 => repeat (first | exact Env.Le.nil _ | refine Env.Le.cons rfl ?_)
                case h5 => repeat (first | exact Sub.heap_nil _ | exact Sub.refl _ | refine Sub.heap_cons (by repeat (first | exact Take.head _ _ | apply Take.tail)) ?_)
          · have hn0 : n = 0 := by simpa using hc27
            refine CW.exit ?_
            refine NW.then_exit ?_
            refine NW.then_exit ?_
            refine NW.block_exit ?_
            refine NW.meet (()) ?j6 ?e6 ?h6
            case j6 => exact trivial
            case e6 => rw [show sizeZ n = want from by rw [hn0, hw0]; rfl]; repeat (first | exact Env.Le.nil _ | refine Env.Le.cons rfl ?_)
            case h6 => repeat (first | exact Sub.heap_nil _ | exact Sub.refl _ | refine Sub.heap_cons (by repeat (first | exact Take.head _ _ | apply Take.tail)) ?_)
        · refine LW.on 20 rfl rfl ?_
          refine LW.eql false rfl rfl (beq_eq_false_iff_ne.2 (by omega)) rfl ?_
          refine LW.pickT rfl rfl rfl ?_
          refine LW.move rfl rfl ?_
          refine LW.off 24 rfl rfl rfl rfl ?_
          refine LW.off 24 rfl rfl rfl rfl ?_
          refine LW.pickF rfl rfl rfl ?_
          refine LW.nil ?_
          refine NW.then_ ?_
          refine CW.cond_false rfl ?_
          refine CW.exit ?_
          refine NW.then_exit ?_
          refine NW.then_exit ?_
          refine NW.block_exit ?_
          refine NW.meet (()) ?j7 ?e7 ?h7
          case j7 => exact trivial
          case e7 => rw [← (hwz hw0).2]; repeat (first | exact Env.Le.nil _ | refine Env.Le.cons rfl ?_)
          case h7 => repeat (first | exact Sub.heap_nil _ | exact Sub.refl _ | refine Sub.heap_cons (by repeat (first | exact Take.head _ _ | apply Take.tail)) ?_)
      · refine LW.leq false rfl rfl (decide_eq_false (by omega)) rfl ?_
        refine LW.move rfl rfl ?_
        refine LW.off 20 rfl rfl rfl rfl ?_
        by_cases hw0 : want = 0
        · refine LW.off 20 rfl rfl rfl rfl ?_
          refine LW.pickF rfl rfl rfl ?_
          refine LW.move rfl rfl ?_
          refine LW.off 24 rfl rfl rfl rfl ?_
          refine LW.off 24 rfl rfl rfl rfl ?_
          refine LW.pickF rfl rfl rfl ?_
          refine LW.nil ?_
          refine NW.then_ ?_
          refine CW.cond_false rfl ?_
          refine CW.exit ?_
          refine NW.then_exit ?_
          refine NW.then_exit ?_
          refine NW.block_exit ?_
          refine NW.meet (()) ?j8 ?e8 ?h8
          case j8 => exact trivial
          case e8 => rw [show sizeZ n = want from by
            by_cases hw : want = 0
            · exact absurd rfl (hlt hw 8 (by omega) (by omega)).1
            · exact (hwz hw).2.symm]; repeat (first | exact Env.Le.nil _ | refine Env.Le.cons rfl ?_)
          case h8 => repeat (first | exact Sub.heap_nil _ | exact Sub.refl _ | refine Sub.heap_cons (by repeat (first | exact Take.head _ _ | apply Take.tail)) ?_)
        · refine LW.off 20 rfl rfl rfl rfl ?_
          refine LW.pickF rfl rfl rfl ?_
          refine LW.move rfl rfl ?_
          refine LW.off 24 rfl rfl rfl rfl ?_
          refine LW.off 24 rfl rfl rfl rfl ?_
          refine LW.pickF rfl rfl rfl ?_
          refine LW.nil ?_
          refine NW.then_ ?_
          refine CW.cond_false rfl ?_
          refine CW.exit ?_
          refine NW.then_exit ?_
          refine NW.then_exit ?_
          refine NW.block_exit ?_
          refine NW.meet (()) ?j9 ?e9 ?h9
          case j9 => exact trivial
          case e9 => rw [show sizeZ n = want from by
            by_cases hw : want = 0
            · exact absurd rfl (hlt hw 8 (by omega) (by omega)).1
            · exact (hwz hw).2.symm]; repeat (first | exact Env.Le.nil _ | refine Env.Le.cons rfl ?_)
          case h9 => repeat (first | exact Sub.heap_nil _ | exact Sub.refl _ | refine Sub.heap_cons (by repeat (first | exact Take.head _ _ | apply Take.tail)) ?_)
  case cut13_2 =>
    rintro ⟨⟩ _
    refine CW.seq ?_
    refine CW.seq ?_
    refine CW.region ?_
    refine LW.move rfl rfl ?_
    refine LW.lenSlice rfl Tryd.underlying26 rfl ?_
    refine LW.move rfl rfl ?_
    refine LW.add ((sizeZ n + 1 : Int)) rfl rfl (by first | rfl | exact wr64 (by omega) (by omega) (by omega)) rfl ?_
    refine LW.neq false rfl rfl (by rw [hel]; simp) rfl ?_
    refine LW.move rfl rfl ?_
    refine LW.on 55 rfl rfl ?_
    refine LW.move rfl rfl ?_
    refine LW.on 55 rfl rfl ?_
    refine LW.indexAt rfl rfl Tryd.underlying26 FactsLawLeast.ixs26 (by decide) (by omega) rfl ?_
    refine LW.on 55 rfl rfl ?_
    refine LW.loadRd (v := .int .u8 ((UInt8.ofNat (sizeZ n)).toNat : Int)) rfl (hs3.rd (by repeat (first | exact Take.head _ _ | apply Take.tail))) (by simp [encZ, u8v]) FactsLawLeast.one5 rfl ?_
    refine LW.on 55 rfl rfl ?_
    refine LW.convInt ((sizeZ n : Int)) rfl Tryd.underlying5 Tryd.underlying3 (by rw [← wrap_u8_nat _ hz]; exact wr64 (by rw [wrap_u8, UInt8.toNat_ofNat']; omega) (by omega) (by omega)) rfl ?_
    refine LW.on 55 rfl rfl ?_
    refine LW.move rfl rfl ?_
    refine LW.on 55 rfl rfl ?_
    refine LW.neq false rfl rfl (by simp) rfl ?_
    refine LW.pickF rfl rfl rfl ?_
    refine LW.nil ?_
    refine NW.then_ ?_
    refine CW.cond_false rfl ?_
    refine CW.skip ?_
    refine NW.then_ ?_
    refine CW.seq ?_
    refine CW.seq ?_
    refine CW.region ?_
    refine LW.move rfl rfl ?_
    by_cases h8 : sizeZ n = 8
    · refine LW.eql true rfl rfl (beq_iff_eq.2 (by omega)) rfl ?_
      refine LW.nil ?_
      refine NW.then_ ?_
      refine CW.cond_true rfl ?_
      refine CW.seq ?_
      refine CW.region ?_
      refine LW.assign rfl rfl ?_
      refine LW.nil ?_
      refine NW.then_ ?_
      refine CW.ret ?_
      refine NW.then_ret ?_
      refine NW.ret1 rfl rfl ⟨_, ⟨rfl, rfl⟩, ?_⟩
      exact Sub.nil _
    · refine LW.eql false rfl rfl (beq_eq_false_iff_ne.2 (by omega)) rfl ?_
      refine LW.nil ?_
      refine NW.then_ ?_
      refine CW.cond_false rfl ?_
      refine CW.skip ?_
      refine NW.then_ ?_
      refine CW.seq ?_
      refine CW.region ?_
      refine LW.move rfl rfl ?_
      refine LW.append ((encZ n).map u8v) rfl rfl Tryd.underlying26 Tryd.underlying26 (.inr ⟨_, rfl⟩) FactsLawLeast.info5 rfl (OwnB.nil) (Take.none _) (fun _ => lenOf_slice _ _ _ _) (first_rd (hs3.rd (by repeat (first | exact Take.head _ _ | apply Take.tail))) (by simp) (fun h => by cases h)) (by simp) (u8vs_one _) (by simp only [List.length_nil]; omega) (by simp only [List.length_nil]; omega) rfl ?_
      intro v4 ch4 ho4; replace ho4 := OwnB.app ho4 rfl rfl
      refine LW.assign rfl rfl ?_
      refine LW.nil ?_
      refine NW.then_ ?_
      refine CW.seq ?_
      rcases ho4 with ⟨_, hx, _⟩ | ⟨b4, cap4, slack, rfl, hxl, hmc, hsl, rfl⟩
      · simp only [List.nil_append] at hx; omega
      rw [List.nil_append] at hxl hmc hsl
      refine CW.region ?_
      refine LW.move rfl rfl ?_
      refine LW.indexAddr (0) rfl rfl Tryd.underlying26 FactsLawLeast.ixs26 (by decide) (by simp only [List.nil_append]; omega) (rfl) rfl ?_
      refine LW.load (v := .int .u8 ((UInt8.ofNat (sizeZ n)).toNat : Int)) rfl (by repeat (first | exact Take.head _ _ | apply Take.tail)) (by simp [encZ, u8v]) FactsLawLeast.one5 rfl ?_
      refine LW.add (((UInt8.ofNat (sizeZ n + 1)).toNat : Int)) rfl rfl (by rw [wrap_u8, UInt8.toNat_ofNat', UInt8.toNat_ofNat', UInt8.toNat_ofNat']; omega) rfl ?_
      refine LW.indexAddr (0) rfl rfl Tryd.underlying26 FactsLawLeast.ixs26 (by decide) (by simp only [List.nil_append]; omega) (rfl) rfl ?_
      refine LW.store rfl rfl (by repeat (first | exact Take.head _ _ | apply Take.tail)) (by simp [encZ]) FactsLawLeast.sz5 (rfl) ?_
      rw [show (List.map u8v ([] ++ encZ n) ++ slack).set 0 (.int .u8 ((UInt8.ofNat (sizeZ n + 1)).toNat : Int)) = (UInt8.ofNat (sizeZ n + 1) :: (List.range (sizeZ n)).map (byteZ n)).map u8v ++ slack from by simp [encZ, u8v]]
      refine LW.nil ?_
      refine NW.then_ ?_
      refine CW.seq ?_
      refine CW.region ?_
      refine LW.assign rfl rfl ?_
      refine LW.nil ?_
      refine NW.then_ ?_
      refine CW.cut (fun _ : Unit => [(9, u8v (if n < 0 then 255 else 0)), (8, .slice (some ⟨b4, 0, none⟩) (encZ n).length cap4)]) (fun _ => [[cr b4 5 ((UInt8.ofNat (sizeZ n + 1) :: (List.range (sizeZ n)).map (byteZ n)).map u8v ++ slack)]]) (fun _ => True) ?cut22_1 ?cut22_2
      case cut22_1 =>
        refine CW.seq ?_
        refine CW.region ?_
        refine LW.move rfl rfl ?_
        refine LW.lss (decide (n < 0)) rfl rfl (rfl) rfl ?_
        refine LW.nil ?_
        refine NW.then_ ?_
        refine CW.cond rfl (fun hc73 => ?_) (fun hc73 => ?_)
        · have hng : n < 0 := of_decide_eq_true hc73
          refine CW.region ?_
          refine LW.assign rfl rfl ?_
          refine LW.nil ?_
          refine NW.meet (()) ?j10 ?e10 ?h10
          case j10 => exact trivial
          case e10 => (first | rw [if_pos hng] | rw [if_neg hng]); repeat (first | exact Env.Le.nil _ | refine Env.Le.cons rfl ?_)
          case h10 => repeat (first | exact Sub.heap_nil _ | exact Sub.refl _ | refine Sub.heap_cons (by repeat (first | exact Take.head _ _ | apply Take.tail)) ?_)
        · have hng : ¬ n < 0 := of_decide_eq_false hc73
          refine CW.skip ?_
          refine NW.meet (()) ?j11 ?e11 ?h11
          case j11 => exact trivial
          case e11 => (first | rw [if_pos hng] | rw [if_neg hng]); repeat (first | exact Env.Le.nil _ | refine Env.Le.cons rfl ?_)
          case h11 => repeat (first | exact Sub.heap_nil _ | exact Sub.refl _ | refine Sub.heap_cons (by repeat (first | exact Take.head _ _ | apply Take.tail)) ?_)
      case cut22_2 =>
        rintro ⟨⟩ _
        refine CW.seq ?_
        refine CW.region ?_
        refine LW.move rfl rfl ?_
        refine LW.move rfl rfl ?_
        refine LW.buildSlice (vs := [_]) ⟨rfl, trivial⟩ rfl (by intro v hv; simp at hv; subst hv; rfl) Tryd.underlying26 FactsLawLeast.info5 rfl (by decide) (by decide) rfl ?_
        intro bs76
        refine LW.append ([u8v (if n < 0 then 255 else 0)]) rfl rfl Tryd.underlying26 Tryd.underlying26 (.inr ⟨_, rfl⟩) FactsLawLeast.info5 rfl ((show OwnS 5 1 (.slice (some ⟨b4, 0, none⟩) (encZ n).length cap4) (encZ n).length ((UInt8.ofNat (sizeZ n + 1) :: (List.range (sizeZ n)).map (byteZ n)).map u8v) [cr b4 5 ((UInt8.ofNat (sizeZ n + 1) :: (List.range (sizeZ n)).map (byteZ n)).map u8v ++ slack)] from .inr ⟨b4, cap4, slack, rfl, by simp [encZ], hmc, hsl, rfl⟩)) (by repeat (first | exact Take.head _ _ | apply Take.tail)) (fun _ => lenOf_slice _ _ _ _) (first_rd (RdAt.row (by repeat (first | exact Take.head _ _ | apply Take.tail)) (fun j v hj => by rw [Nat.zero_add]; exact hj)) rfl (fun h => (by cases h))) (rfl) (u8vs_one [_]) (by omega) (by omega) rfl ?_
        intro v5 ch5 ho5
        have ho6 : OwnB v5 (longZ n) ch5 := by
          have hh := ho5
          unfold OwnB longZ
          simpa [encZ] using hh
        obtain ⟨A6, cp6, rfl, hA6, _⟩ := OwnS.val ho6
        refine LW.call (bin_NewReader W B ch5 A6 cp6 (longZ n) (OwnS.src ho6) hA6 (by simp [longZ]; omega)) Tryd.func30 rfl FactsLawLeast.fname30 ⟨rfl, trivial⟩ (by repeat (first | exact Take.head _ _ | apply Take.tail)) rfl ?_
        rintro _ _ ⟨rp, rv, rch, rfl, hrd, rfl⟩; refine LW.split2 ?_
        refine LW.assign rfl rfl ?_
        refine LW.nil ?_
        refine NW.then_ ?_
        refine CW.seq ?_
        refine CW.region ?_
        refine LW.move rfl rfl ?_
        refine LW.call (bin_RInt_none W B rp rv (longZ n) rch hrd (by simp [longZ]; omega) (getZ_long hI h8)) Tryd.func31 rfl FactsLawLeast.fname31 ⟨rfl, trivial⟩ (by repeat (first | exact Take.head _ _ | apply Take.tail)) rfl ?_
        rintro _ _ ⟨rfl, rfl⟩
        refine LW.eql true rfl rfl (rfl) rfl ?_
        refine LW.move rfl rfl ?_
        refine LW.on 82 rfl rfl ?_
        refine LW.move rfl rfl ?_
        refine LW.on 82 rfl rfl ?_
        refine LW.call (bin_Err W B rp rv true rch) Tryd.func32 rfl FactsLawLeast.fname32 ⟨rfl, trivial⟩ (by repeat (first | exact Take.head _ _ | apply Take.tail)) rfl ?_
        rintro _ _ ⟨rfl, rfl⟩
        refine LW.on 82 rfl rfl ?_
        refine LW.eql true rfl rfl (rfl) rfl ?_
        refine LW.pickT rfl rfl rfl ?_
        refine LW.assign rfl rfl ?_
        refine LW.nil ?_
        refine NW.then_ ?_
        refine CW.ret ?_
        refine NW.ret1 rfl rfl ⟨_, ⟨rfl, rfl⟩, ?_⟩
        exact Sub.nil _
end
end Go.Proofs.YtmgpldgldgdenaaDoor
