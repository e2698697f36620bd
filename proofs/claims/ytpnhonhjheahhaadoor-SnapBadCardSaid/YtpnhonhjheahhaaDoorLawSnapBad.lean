/-
  SnapBad, walked.
-/
import Derived.Test.YtpnhonhjheahhaaDoorHelp5
namespace Go.Proofs.YtpnhonhjheahhaaDoor
open Go.RowKit
namespace FactsLawSnapBad
theorem fname21 : (Tryd.f21.name == "runtime.NumGoroutine") = false := by kernel_rfl
theorem fname22 : (Tryd.f22.name == "runtime.NumGoroutine") = false := by kernel_rfl
theorem fname23 : (Tryd.f23.name == "runtime.NumGoroutine") = false := by kernel_rfl
theorem fname27 : (Tryd.f27.name == "runtime.NumGoroutine") = false := by kernel_rfl
theorem fname34 : (Tryd.f34.name == "runtime.NumGoroutine") = false := by kernel_rfl
theorem fname36 : (Tryd.f36.name == "runtime.NumGoroutine") = false := by kernel_rfl
end FactsLawSnapBad
theorem areaC_len {X : Nat → List UInt8} {i m : Nat} (h : ∀ k, k < (m + 63) / 64 → (X (i + k)).length = 64) : (areaC X i m).length = m := by
  rw [areaC, List.length_take, secsC_len X i _ h]
  omega
theorem most_wrap (n : Nat) (h : n ≤ 4096) : IntKind.wrap .i64 ((n : Int) / 4 * 64) = (mostN n : Int) := by
  unfold mostN
  exact wr64 (by omega) (by omega) (by omega)
section
variable (W : World) (B : Nat)
set_option maxHeartbeats 4000000 in
theorem law_SnapBad (h0 : 0 < B) (hg : W.cell? ⟨0, 0, none⟩ = some (rty 110)) (z : Int) (area length : Int) (ha : I64 area) (hl : I64 length) :
    Spec Tryd.prog W B 11 [.int .i64 z, .int .i64 area, .int .i64 length] [] (fun v post => v = .bool true ∧ post = []) := by
  obtain ⟨m, hm, hm2, hx1, hx2⟩ := mod_pos z 200 (by decide) (by decide)
  have hr0 := Rest.zero (n := 64 + m) (by omega) (by omega)
  have hs0 := zero_slot (64 + m) (by omega)
  refine Spec.enter ([]) Tryd.func11 rfl Tryd.ntmps11 rfl (by first | rfl | simp) (fun w0 => ?_)
  refine CW.seq ?_
  refine CW.region ?_
  refine LW.assign rfl rfl ?_
  refine LW.nil ?_
  refine NW.then_ ?_
  refine CW.seq ?_
  refine CW.region ?_
  refine LW.call (law_begun4 W B h0 hg) Tryd.func21 rfl FactsLawSnapBad.fname21 trivial (Take.none _) rfl ?_
  rintro _ _ ⟨rfl, rfl⟩
  refine LW.assign rfl rfl ?_
  refine LW.nil ?_
  refine NW.then_ ?_
  refine CW.seq ?_
  refine CW.seq ?_
  refine CW.region ?_
  refine LW.move rfl rfl ?_
  refine LW.not (false) rfl (rfl) rfl ?_
  refine LW.nil ?_
  refine NW.then_ ?_
  refine CW.cond_false rfl ?_
  refine CW.skip ?_
  refine NW.then_ ?_
  refine CW.seq ?_
  refine CW.region ?_
  refine LW.move rfl rfl ?_
  refine LW.rem (z.tmod 200) rfl rfl (by decide) (rfl) rfl ?_
  refine LW.add (z.tmod 200 + 200) rfl rfl (by first | rfl | exact wr64 (by omega) (by omega) (by omega)) rfl ?_
  refine LW.rem ((m : Int)) rfl rfl (by decide) (hm) rfl ?_
  refine LW.add (((64 + m : Nat) : Int)) rfl rfl (by first | rfl | exact wr64 (by omega) (by omega) (by omega)) rfl ?_
  refine LW.assign rfl rfl ?_
  refine LW.nil ?_
  refine NW.then_ ?_
  refine CW.seq ?_
  generalize hnm : 64 + m = n at hr0 hs0 ⊢
  refine CW.region ?_
  refine LW.move rfl rfl ?_
  refine LW.call (dev_New W B n (by omega) (by omega)) Tryd.func23 rfl FactsLawSnapBad.fname23 ⟨rfl, trivial⟩ (Take.none _) rfl ?_
  rintro _ _ ⟨p, bn, bw, bl, rfl, rfl⟩
  refine LW.assign rfl rfl ?_
  refine LW.nil ?_
  refine NW.then_ ?_
  refine CW.seq ?_
  generalize DevS.zero n = d0 at hr0 hs0 ⊢
  refine CW.region ?_
  refine LW.move rfl rfl ?_
  refine LW.call (wal_Make_ok W B p bn bw bl n d0 hr0.ok hr0.up (hold_slot hr0.flat (by omega) hs0) (by decide)) Tryd.func22 rfl FactsLawSnapBad.fname22 ⟨rfl, trivial⟩ (by repeat (first | exact Take.head _ _ | apply Take.tail)) rfl ?_
  rintro _ _ ⟨l, q, d1, rfl, hr1, hf1, hl1, _, rfl⟩; refine LW.split2 ?_
  refine LW.move rfl rfl ?_
  refine LW.extract rfl rfl rfl ?_
  refine LW.extract rfl rfl rfl ?_
  refine LW.assign rfl rfl ?_
  refine LW.assign rfl rfl ?_
  refine LW.nil ?_
  refine NW.then_ ?_
  refine CW.seq ?_
  refine CW.seq ?_
  refine CW.region ?_
  refine LW.move rfl rfl ?_
  refine LW.neq false rfl rfl (bne_eq_false_iff_eq.2 (by omega)) rfl ?_
  refine LW.move rfl rfl ?_
  refine LW.on 32 rfl rfl ?_
  refine LW.move rfl rfl ?_
  refine LW.on 32 rfl rfl ?_
  refine LW.move rfl rfl ?_
  refine LW.on 32 rfl rfl ?_
  refine LW.move rfl rfl ?_
  refine LW.on 32 rfl rfl ?_
  refine LW.call (wal_Reset_ok W B l q p bn bw bl n d1 hr1 hf1 hl1 (by decide) area length ha hl) Tryd.func27 rfl FactsLawSnapBad.fname27 ⟨rfl, rfl, rfl, trivial⟩ (Take.both (by repeat (first | exact Take.head _ _ | apply Take.tail)) (by repeat (first | exact Take.head _ _ | apply Take.tail))) rfl ?_
  rintro _ _ ⟨rfl, d2, hr2, hf2, hl2, _, rfl⟩; refine LW.split2 (LW.split2 ?_)
  refine LW.on 32 rfl rfl ?_
  refine LW.neq false rfl rfl (bne_eq_false_iff_eq.2 (by omega)) rfl ?_
  refine LW.pickF rfl rfl rfl ?_
  refine LW.nil ?_
  refine NW.then_ ?_
  refine CW.cond_false rfl ?_
  refine CW.skip ?_
  refine NW.then_ ?_
  refine CW.seq ?_
  obtain ⟨e, t, hget, hz, hbd, hok⟩ : ∃ e t, getL n d2.N (LogS.log ⟨0 + 1 + 1, area, length, []⟩) = (e, t) ∧ (area = 0 → e = 0 ∧ t = []) ∧ (area ≠ 0 → ((area ≠ 1 ∧ area ≠ 2) ∨ length < 0 ∨ (mostN n : Int) < length) → e = 10) ∧ (area ≠ 0 → ¬ ((area ≠ 1 ∧ area ≠ 2) ∨ length < 0 ∨ (mostN n : Int) < length) → e = 0 ∧ (t.length : Int) = length) := by
    have hXl : ∀ i, i < n → (d2.N i).length = 64 := fun i hi => ok_len hr2.ok hi
    have ea : (LogS.log ⟨0 + 1 + 1, area, length, []⟩).area = area := rfl
    have el : (LogS.log ⟨0 + 1 + 1, area, length, []⟩).length = length := rfl
    unfold getL
    rw [ea, el]
    by_cases h1 : area = 0
    · rw [if_pos h1]; exact ⟨0, [], rfl, fun _ => ⟨rfl, rfl⟩, fun h => absurd h1 h, fun h => absurd h1 h⟩
    rw [if_neg h1]
    by_cases h2 : area < 0 ∨ 2 < area ∨ length < 0 ∨ (mostN n : Int) < length
    · rw [if_pos h2]; exact ⟨10, [], rfl, fun h => absurd h h1, fun _ _ => rfl, fun _ h => absurd h (by omega)⟩
    · rw [if_neg h2]
      refine ⟨0, _, rfl, fun h => absurd h h1, fun _ h => absurd h (by omega), fun _ _ => ⟨rfl, ?_⟩⟩
      have hend : beginN n area.toNat + n / 4 ≤ n := by
        unfold beginN
        rcases (show area = 1 ∨ area = 2 by omega) with k | k <;> rw [k] <;> simp <;> omega
      have hmn : mostN n = n / 4 * 64 := rfl
      rw [areaC_len (fun k hk => hXl _ (by omega))]
      omega
  refine CW.region ?_
  refine LW.move rfl rfl ?_
  refine LW.move rfl rfl ?_
  refine LW.call (snap_Get_at W B l q p bn bw bl n d2 hr2.ok _ e t hget) Tryd.func34 rfl FactsLawSnapBad.fname34 ⟨rfl, rfl, trivial⟩ (Take.both (by repeat (first | exact Take.head _ _ | apply Take.tail)) (by repeat (first | exact Take.head _ _ | apply Take.tail))) rfl ?_
  rintro _ _ ⟨A7, cp7, ch7, rfl, hx7, _, _, rfl⟩; refine LW.split2 (LW.split2p ?_)
  refine LW.move rfl rfl ?_
  refine LW.extract rfl rfl rfl ?_
  refine LW.extract rfl rfl rfl ?_
  refine LW.assign rfl rfl ?_
  refine LW.assign rfl rfl ?_
  refine LW.nil ?_
  refine NW.then_ ?_
  refine CW.seq ?_
  refine CW.region ?_
  refine LW.move rfl rfl ?_
  refine LW.quoN rfl rfl (by omega) (by omega) rfl ?_
  refine LW.mul ((mostN n : Int)) rfl rfl (most_wrap n (by omega)) rfl ?_
  refine LW.assign rfl rfl ?_
  refine LW.nil ?_
  refine NW.then_ ?_
  refine CW.seq ?_
  refine CW.seq ?_
  obtain ⟨bad, hbad⟩ : ∃ b : Bool, b = decide ((area ≠ 1 ∧ area ≠ 2) ∨ length < 0 ∨ (mostN n : Int) < length) := ⟨_, rfl⟩
  refine CW.region ?_
  refine LW.move rfl rfl ?_
  by_cases hz0 : area = 0
  · refine LW.eql true rfl rfl (decide_eq_true hz0) rfl ?_
    refine LW.nil ?_
    refine NW.then_ ?_
    refine CW.cond_true rfl ?_
    refine CW.seq ?_
    refine CW.region ?_
    refine LW.move rfl rfl ?_
    obtain ⟨rfl, rfl⟩ := hz hz0
    refine LW.eql true rfl rfl (beq_iff_eq.2 (by omega)) rfl ?_
    refine LW.move rfl rfl ?_
    refine LW.on 52 rfl rfl ?_
    refine LW.move rfl rfl ?_
    refine LW.on 52 rfl rfl ?_
    refine LW.lenSlice rfl Tryd.underlying31 rfl ?_
    refine LW.on 52 rfl rfl ?_
    refine LW.eql true rfl rfl (rfl) rfl ?_
    refine LW.pickT rfl rfl rfl ?_
    refine LW.assign rfl rfl ?_
    refine LW.nil ?_
    refine NW.then_ ?_
    refine CW.ret ?_
    refine NW.then_ret ?_
    refine NW.ret1 rfl rfl ⟨_, ⟨rfl, rfl⟩, ?_⟩
    exact Sub.nil _
  · refine LW.eql false rfl rfl (decide_eq_false hz0) rfl ?_
    refine LW.nil ?_
    refine NW.then_ ?_
    refine CW.cond_false rfl ?_
    refine CW.skip ?_
    refine NW.then_ ?_
    refine CW.cut (fun _ : Unit => [(14, .bool bad), (2, .int .i64 length), (11, .slice A7 t.length cp7), (12, .int .i64 e), (13, .int .i64 (mostN n : Int)), (8, .pointer (some ⟨p, 0, none⟩))]) (fun _ => [devC p bn bw bl n d2]) (fun _ => True) ?cut14_1 ?cut14_2
    case cut14_1 =>
      refine CW.region ?_
      refine LW.move rfl rfl ?_
      by_cases ha1 : area = 1
      · refine LW.neq false rfl rfl (bne_eq_false_iff_eq.2 ha1) rfl ?_
        refine LW.move rfl rfl ?_
        refine LW.off 59 rfl rfl rfl rfl ?_
        refine LW.off 59 rfl rfl rfl rfl ?_
        refine LW.pickF rfl rfl rfl ?_
        refine LW.move rfl rfl ?_
        refine LW.on 63 rfl rfl ?_
        refine LW.move rfl rfl ?_
        by_cases hl0 : length < 0
        · refine LW.on 63 rfl rfl ?_
          refine LW.lss true rfl rfl (decide_eq_true hl0) rfl ?_
          refine LW.pickF rfl rfl rfl ?_
          refine LW.move rfl rfl ?_
          refine LW.off 67 rfl rfl rfl rfl ?_
          refine LW.off 67 rfl rfl rfl rfl ?_
          refine LW.off 67 rfl rfl rfl rfl ?_
          refine LW.pickT rfl rfl rfl ?_
          refine LW.assign rfl rfl ?_
          refine LW.nil ?_
          refine NW.meet (()) ?j1 ?e1 ?h1
          case j1 => exact trivial
          case e1 => first | rw [decide_eq_true (by omega)] at hbad; subst hbad; repeat (first | exact Env.Le.nil _ | refine Env.Le.cons rfl ?_) | rw [decide_eq_false (by omega)] at hbad; subst hbad; repeat (first | exact Env.Le.nil _ | refine Env.Le.cons rfl ?_)
          case h1 => repeat (first | exact Sub.heap_nil _ | exact Sub.refl _ | refine Sub.heap_cons (Take.none _) ?_ | refine Sub.heap_cons (by repeat (first | exact Take.head _ _ | apply Take.tail)) ?_)
        · refine LW.on 63 rfl rfl ?_
          refine LW.lss false rfl rfl (decide_eq_false hl0) rfl ?_
          refine LW.pickF rfl rfl rfl ?_
          refine LW.move rfl rfl ?_
          refine LW.on 67 rfl rfl ?_
          refine LW.move rfl rfl ?_
          refine LW.on 67 rfl rfl ?_
          refine LW.move rfl rfl ?_
          by_cases hlm : (mostN n : Int) < length
          · refine LW.on 67 rfl rfl ?_
            refine LW.gtr true rfl rfl (decide_eq_true hlm) rfl ?_
            refine LW.pickF rfl rfl rfl ?_
            refine LW.assign rfl rfl ?_
            refine LW.nil ?_
            refine NW.meet (()) ?j2 ?e2 ?h2
            case j2 => exact trivial
            case e2 => first | rw [decide_eq_true (by omega)] at hbad; subst hbad; repeat (first | exact Env.Le.nil _ | refine Env.Le.cons rfl ?_) | rw [decide_eq_false (by omega)] at hbad; subst hbad; repeat (first | exact Env.Le.nil _ | refine Env.Le.cons rfl ?_)
            case h2 => repeat (first | exact Sub.heap_nil _ | exact Sub.refl _ | refine Sub.heap_cons (Take.none _) ?_ | refine Sub.heap_cons (by repeat (first | exact Take.head _ _ | apply Take.tail)) ?_)
          · refine LW.on 67 rfl rfl ?_
            refine LW.gtr false rfl rfl (decide_eq_false hlm) rfl ?_
            refine LW.pickF rfl rfl rfl ?_
            refine LW.assign rfl rfl ?_
            refine LW.nil ?_
            refine NW.meet (()) ?j3 ?e3 ?h3
            case j3 => exact trivial
            case e3 => first | rw [decide_eq_true (by omega)] at hbad; subst hbad; repeat (first | exact Env.Le.nil _ | refine Env.Le.cons rfl ?_) | rw [decide_eq_false (by omega)] at hbad; subst hbad; repeat (first | exact Env.Le.nil _ | refine Env.Le.cons rfl ?_)
            case h3 => repeat (first | exact Sub.heap_nil _ | exact Sub.refl _ | refine Sub.heap_cons (Take.none _) ?_ | refine Sub.heap_cons (by repeat (first | exact Take.head _ _ | apply Take.tail)) ?_)
      · refine LW.neq true rfl rfl (bne_iff_ne.2 ha1) rfl ?_
        refine LW.move rfl rfl ?_
        refine LW.on 59 rfl rfl ?_
        refine LW.move rfl rfl ?_
        by_cases ha2 : area = 2
        · refine LW.on 59 rfl rfl ?_
          refine LW.neq false rfl rfl (bne_eq_false_iff_eq.2 ha2) rfl ?_
          refine LW.pickT rfl rfl rfl ?_
          refine LW.move rfl rfl ?_
          refine LW.on 63 rfl rfl ?_
          refine LW.move rfl rfl ?_
          by_cases hl0 : length < 0
          · refine LW.on 63 rfl rfl ?_
            refine LW.lss true rfl rfl (decide_eq_true hl0) rfl ?_
            refine LW.pickF rfl rfl rfl ?_
            refine LW.move rfl rfl ?_
            refine LW.off 67 rfl rfl rfl rfl ?_
            refine LW.off 67 rfl rfl rfl rfl ?_
            refine LW.off 67 rfl rfl rfl rfl ?_
            refine LW.pickT rfl rfl rfl ?_
            refine LW.assign rfl rfl ?_
            refine LW.nil ?_
            refine NW.meet (()) ?j4 ?e4 ?h4
            case j4 => exact trivial
            case e4 => first | rw [decide_eq_true (by omega)] at hbad; subst hbad; repeat (first | exact Env.Le.nil _ | refine Env.Le.cons rfl ?_) | rw [decide_eq_false (by omega)] at hbad; subst hbad; repeat (first | exact Env.Le.nil _ | refine Env.Le.cons rfl ?_)
            case h4 => repeat (first | exact Sub.heap_nil _ | exact Sub.refl _ | refine Sub.heap_cons (Take.none _) ?_ | refine Sub.heap_cons (by repeat (first | exact Take.head _ _ | apply Take.tail)) ?_)
          · refine LW.on 63 rfl rfl ?_
            refine LW.lss false rfl rfl (decide_eq_false hl0) rfl ?_
            refine LW.pickF rfl rfl rfl ?_
            refine LW.move rfl rfl ?_
            refine LW.on 67 rfl rfl ?_
            refine LW.move rfl rfl ?_
            refine LW.on 67 rfl rfl ?_
            refine LW.move rfl rfl ?_
            by_cases hlm : (mostN n : Int) < length
            · refine LW.on 67 rfl rfl ?_
              refine LW.gtr true rfl rfl (decide_eq_true hlm) rfl ?_
              refine LW.pickF rfl rfl rfl ?_
              refine LW.assign rfl rfl ?_
              refine LW.nil ?_
              refine NW.meet (()) ?j5 ?e5 ?h5
              case j5 => exact trivial
              case e5 => first | rw [decide_eq_true (by omega)] at hbad; subst hbad; repeat (first | exact Env.Le.nil _ | refine Env.Le.cons rfl ?_) | rw [decide_eq_false (by omega)] at hbad; subst hbad; repeat (first | exact Env.Le.nil _ | refine Env.Le.cons rfl ?_)
              case h5 => repeat (first | exact Sub.heap_nil _ | exact Sub.refl _ | refine Sub.heap_cons (Take.none _) ?_ | refine Sub.heap_cons (by repeat (first | exact Take.head _ _ | apply Take.tail)) ?_)
            · refine LW.on 67 rfl rfl ?_
              refine LW.gtr false rfl rfl (decide_eq_false hlm) rfl ?_
              refine LW.pickF rfl rfl rfl ?_
              refine LW.assign rfl rfl ?_
              refine LW.nil ?_
              refine NW.meet (()) ?j6 ?e6 ?h6
              case j6 => exact trivial
              case e6 => first | rw [decide_eq_true (by omega)] at hbad; subst hbad; repeat (first | exact Env.Le.nil _ | refine Env.Le.cons rfl ?_) | rw [decide_eq_false (by omega)] at hbad; subst hbad; repeat (first | exact Env.Le.nil _ | refine Env.Le.cons rfl ?_)
              case h6 => repeat (first | exact Sub.heap_nil _ | exact Sub.refl _ | refine Sub.heap_cons (Take.none _) ?_ | refine Sub.heap_cons (by repeat (first | exact Take.head _ _ | apply Take.tail)) ?_)
        · refine LW.on 59 rfl rfl ?_
          refine LW.neq true rfl rfl (bne_iff_ne.2 ha2) rfl ?_
          refine LW.pickT rfl rfl rfl ?_
          refine LW.move rfl rfl ?_
          refine LW.off 63 rfl rfl rfl rfl ?_
          refine LW.off 63 rfl rfl rfl rfl ?_
          refine LW.pickT rfl rfl rfl ?_
          refine LW.move rfl rfl ?_
          refine LW.off 67 rfl rfl rfl rfl ?_
          refine LW.off 67 rfl rfl rfl rfl ?_
          refine LW.off 67 rfl rfl rfl rfl ?_
          refine LW.pickT rfl rfl rfl ?_
          refine LW.assign rfl rfl ?_
          refine LW.nil ?_
          refine NW.meet (()) ?j7 ?e7 ?h7
          case j7 => exact trivial
          case e7 => first | rw [decide_eq_true (by omega)] at hbad; subst hbad; repeat (first | exact Env.Le.nil _ | refine Env.Le.cons rfl ?_) | rw [decide_eq_false (by omega)] at hbad; subst hbad; repeat (first | exact Env.Le.nil _ | refine Env.Le.cons rfl ?_)
          case h7 => repeat (first | exact Sub.heap_nil _ | exact Sub.refl _ | refine Sub.heap_cons (Take.none _) ?_ | refine Sub.heap_cons (by repeat (first | exact Take.head _ _ | apply Take.tail)) ?_)
    case cut14_2 =>
      rintro ⟨⟩ _
      try dsimp only
      refine CW.seq ?_
      refine CW.region ?_
      refine LW.move rfl rfl ?_
      refine LW.call (snap_Most W B p bn bw bl n d2 (by omega)) Tryd.func36 rfl FactsLawSnapBad.fname36 ⟨rfl, trivial⟩ (by repeat (first | exact Take.head _ _ | apply Take.tail)) rfl ?_
      rintro _ _ ⟨rfl, rfl⟩
      refine LW.move rfl rfl ?_
      refine LW.eql true rfl rfl (beq_iff_eq.2 (by omega)) rfl ?_
      refine LW.move rfl rfl ?_
      refine LW.on 76 rfl rfl ?_
      refine LW.move rfl rfl ?_
      cases bad
      · refine LW.on 76 rfl rfl ?_
        have hb := of_decide_eq_false hbad.symm
        obtain ⟨rfl, hlen⟩ := hok hz0 hb
        refine LW.eql false rfl rfl (beq_eq_false_iff_ne.2 (by omega)) rfl ?_
        refine LW.on 76 rfl rfl ?_
        refine LW.move rfl rfl ?_
        refine LW.on 76 rfl rfl ?_
        refine LW.boolEql (true) rfl rfl Tryd.underlying4 (rfl) rfl ?_
        refine LW.pickT rfl rfl rfl ?_
        refine LW.move rfl rfl ?_
        refine LW.on 82 rfl rfl ?_
        refine LW.move rfl rfl ?_
        refine LW.on 82 rfl rfl ?_
        refine LW.move rfl rfl ?_
        refine LW.on 84 rfl rfl ?_
        refine LW.move rfl rfl ?_
        refine LW.on 84 rfl rfl ?_
        refine LW.lenSlice rfl Tryd.underlying31 rfl ?_
        refine LW.on 84 rfl rfl ?_
        refine LW.move rfl rfl ?_
        refine LW.on 84 rfl rfl ?_
        refine LW.eql true rfl rfl (beq_iff_eq.2 (by omega)) rfl ?_
        refine LW.on 82 rfl rfl ?_
        refine LW.pickF rfl rfl rfl ?_
        refine LW.pickT rfl rfl rfl ?_
        refine LW.assign rfl rfl ?_
        refine LW.nil ?_
        refine NW.then_ ?_
        refine CW.ret ?_
        refine NW.ret1 rfl rfl ⟨_, ⟨rfl, rfl⟩, ?_⟩
        exact Sub.nil _
      · refine LW.on 76 rfl rfl ?_
        have hb := of_decide_eq_true hbad.symm
        obtain rfl := hbd hz0 hb
        refine LW.eql true rfl rfl (beq_iff_eq.2 (by omega)) rfl ?_
        refine LW.on 76 rfl rfl ?_
        refine LW.move rfl rfl ?_
        refine LW.on 76 rfl rfl ?_
        refine LW.boolEql (true) rfl rfl Tryd.underlying4 (rfl) rfl ?_
        refine LW.pickT rfl rfl rfl ?_
        refine LW.move rfl rfl ?_
        refine LW.on 82 rfl rfl ?_
        refine LW.move rfl rfl ?_
        refine LW.on 82 rfl rfl ?_
        refine LW.move rfl rfl ?_
        refine LW.off 84 rfl rfl rfl rfl ?_
        refine LW.off 84 rfl rfl rfl rfl ?_
        refine LW.off 84 rfl rfl rfl rfl ?_
        refine LW.off 84 rfl rfl rfl rfl ?_
        refine LW.on 82 rfl rfl ?_
        refine LW.pickT rfl rfl rfl ?_
        refine LW.pickT rfl rfl rfl ?_
        refine LW.assign rfl rfl ?_
        refine LW.nil ?_
        refine NW.then_ ?_
        refine CW.ret ?_
        refine NW.ret1 rfl rfl ⟨_, ⟨rfl, rfl⟩, ?_⟩
        exact Sub.nil _
end
end Go.Proofs.YtpnhonhjheahhaaDoor
