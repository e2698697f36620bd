/-
  PROVED HERE: 'Rows.LogResetCardSaid': the law 'fieldfarelaw4.LogReset' returns true at every input, its arguments read as they did; errors.errorType is tied to the program's text.
-/
import Derived.Test.YtpnhonhjheahhaaDoorOpen
import Derived.Test.YtpnhonhjheahhaaDoorLawLogReset
import Derived.Test.YtpnhonhjheahhaaDoorCards
namespace Go.Proofs.YtpnhonhjheahhaaDoor
open Go.ChangeShapes Go.WideShapes Go.RowKit

set_option maxRecDepth 100000 in
theorem logReset_lifted (os : Os) (started : os.Started) (H : Type) (enc : TypeId × Value → H) :
    ReturnsInHanded {} Tryd.checked os 18 .any (fun w args => (Rows.logResetSpec.pre enc Tryd.prog Tryd.f18 [] false w args ∧ laidMetH Tryd.prog [("errors.errorType", Rows.laid_errors_errorType)] w) ∧ sizedMet enc Tryd.prog Tryd.f18 (OpenSpec.ofChange Rows.logResetSpec) false w args)
      (Rows.logResetSpec.post enc Tryd.prog Tryd.f18 false true false false) := by
  refine returnsInHanded_of_change_and (C := Tryd.checked) (X := fun w _ => laidMetH Tryd.prog [("errors.errorType", Rows.laid_errors_errorType)] w) (fun _ _ _ hh h => h.of_heap hh) own started (by kernel_rfl) Tryd.func18
    (ChangeSpec.witness_at (enc := enc) (C := Tryd.checked) (os := os) (X := fun w _ => laidMetH Tryd.prog [("errors.errorType", Rows.laid_errors_errorType)] w) false (laidWorld os) #[.int .i64 0, .int .i64 0, .int .i64 0, .int .i64 0, .slice none 0 0] 8 rfl (by kernel_rfl) (by kernel_rfl) (by kernel_rfl) (by kernel_rfl) (by kernel_rfl) (laidWorld_met os _)) ?_
  intro W base args ds gs before hval0 hW _ _ hL _
  have hval : ∀ (j : Nat) t v, Tryd.f18.params[j]? = some t → args[j]? = some v → Value.okWide Tryd.prog W .any base t v := hval0
  have hb0 : base = 0 ∨ True := .inr trivial
  have hW' := hW
  obtain ⟨p, q, hA0, hV, rfl, hfz, hnd⟩ := hW
  have hA : DataW.TrodAll enc Tryd.prog W 0 (fun _ => true) true Tryd.f18.params.toList args.toList ds p := hA0
  rw [Tryd.params18] at hA hval
  obtain ⟨v0, v1, v2, v3, v4, d0, d1, d2, d3, d4, p0, p1, p2, p3, p4, rfl, rfl, rfl, h0, h1, h2, h3, h4⟩ := trodAll_five hA
  obtain ⟨rfl, rfl⟩ := trodVars_none hV
  have hg := handle_of_laid hL
  clear hA0 hval0
  have fin : ∀ xs : Array Value, xs = #[v0, v1, v2, v3, v4] → Calls Tryd.prog 18 xs W (fun e W' => e = .returned (.bool true) ∧ Below W.heap.size W W') →
      Calls Tryd.prog 18 xs W (fun e W' => ∃ v, e = .returned v ∧ Rows.logResetSpec.post enc Tryd.prog Tryd.f18 false true false false W xs v W') := fun xs ha hc => by
    subst ha
    refine hc.mono fun e W' hh => ?_
    obtain ⟨he, hb⟩ := hh
    exact ⟨_, he, post_true hW' rfl rfl (fun t ht => by
      rw [Tryd.params18] at ht
      simp at ht; rcases ht with rfl | rfl | rfl | rfl | rfl <;> exact ⟨by kernel_rfl, by rw [ntypes]; decide⟩) rfl hb⟩
  obtain ⟨n, rfl, rfl, rfl, wn⟩ := open_int Tryd.underlying3 (hval 0 3 v0 rfl rfl) h0
  obtain ⟨a, rfl, rfl, rfl, wa⟩ := open_int Tryd.underlying2 (hval 1 2 v1 rfl rfl) h1
  obtain ⟨b, rfl, rfl, rfl, wb⟩ := open_int Tryd.underlying2 (hval 2 2 v2 rfl rfl) h2
  obtain ⟨m, rfl, rfl, rfl, wm⟩ := open_int Tryd.underlying3 (hval 3 3 v3 rfl rfl) h3
  obtain ⟨A3, cp3, keep, rfl, _, _, hsrc, _⟩ := open_bools' Tryd.underlying35 Tryd.underlying4 (by kernel_rfl) (hval 4 35 v4 rfl rfl) h4
  refine fin _ rfl ?_
  exact Spec.below (law_LogReset W W.heap.size (heap_pos hg) hg n a b (wf_i64 wa) (wf_i64 wb) m A3 cp3 keep hsrc)

theorem logReset_holds : Rows.LogResetSaid :=
  OpenClaim.holds_of_wide 18 Tryd.f18 rfl rfl rfl rfl rfl rfl rfl ⟨rfl, rfl, rfl, rfl, rfl⟩ rfl rfl rfl rfl rfl (by kernel_rfl) Tryd.func18 (by kernel_rfl)
    (of_decide_eq_true (by kernel_rfl)) (by unfold Func.isWrapper; rw [if_neg (of_decide_eq_false (by kernel_rfl))]; exact ⟨rfl, rfl⟩)
    (fun os started H enc _ => logReset_lifted os started H enc)
theorem logReset_card : Rows.LogResetCardSaid :=
  Claim7.holds_tied_plain_at .later [] [.handle] true (true, "96bf07c8dc316df8040450c682116fc92989d80005d862ad7dce010db00b13c1") true
    logReset_holds (fun _ h => by cases h) (by kernel_rfl) (fun _ h => by cases h) logReset_row_tie rfl ⟨rfl, rfl⟩ (by kernel_rfl) rfl
    (fun f fn hf hfn => by
      obtain rfl : f = 18 := Option.some.inj ((show Tryd.prog.funcNamed "fieldfare/fieldfarelaw4.LogReset" = some 18 by kernel_rfl).symm.trans hf) |>.symm
      obtain rfl : fn = Tryd.f18 := (Option.some.inj (Tryd.func18.symm.trans hfn)).symm
      exact ⟨by kernel_rfl, fun j t ht => by
        rw [Tryd.params18] at ht
        have hm : t ∈ [3, 2, 2, 3, 35] := by
          have := Array.mem_of_getElem? ht
          simpa using this
        simp at hm; rcases hm with rfl | rfl | rfl | rfl | rfl <;> exact (show Tryd.prog.wantsStandIn _ = false by kernel_rfl)⟩)
    (by kernel_rfl)
#print axioms logReset_card
end Go.Proofs.YtpnhonhjheahhaaDoor
