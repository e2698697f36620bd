/-
  PROVED HERE: 'Rows.DevLooseCardSaid': the law 'fieldfarelaw1.DevLoose' returns true at every input, its arguments read as they did; errors.errorType is tied to the program's text.
-/
import Derived.Test.YtmgpldgldgdenaaDoorOpen
import Derived.Test.YtmgpldgldgdenaaDoorLawLoose
import Derived.Test.YtmgpldgldgdenaaDoorCards
namespace Go.Proofs.YtmgpldgldgdenaaDoor
open Go.ChangeShapes Go.WideShapes Go.RowKit

set_option maxRecDepth 100000 in
theorem devLoose_lifted (os : Os) (started : os.Started) (H : Type) (enc : TypeId × Value → H) :
    ReturnsInHanded {} Tryd.checked os 9 .any (fun w args => (Rows.devLooseSpec.pre enc Tryd.prog Tryd.f9 [] false w args ∧ laidMetH Tryd.prog [("errors.errorType", Rows.laid_errors_errorType)] w) ∧ sizedMet enc Tryd.prog Tryd.f9 (OpenSpec.ofChange Rows.devLooseSpec) false w args)
      (Rows.devLooseSpec.post enc Tryd.prog Tryd.f9 false true false false) := by
  refine returnsInHanded_of_change_and (C := Tryd.checked) (X := fun w _ => laidMetH Tryd.prog [("errors.errorType", Rows.laid_errors_errorType)] w) (fun _ _ _ hh h => h.of_heap hh) own started (by kernel_rfl) Tryd.func9
    (ChangeSpec.witness_at (enc := enc) (C := Tryd.checked) (os := os) (X := fun w _ => laidMetH Tryd.prog [("errors.errorType", Rows.laid_errors_errorType)] w) false (laidWorld os) #[.slice none 0 0, .slice none 0 0] 8 rfl (by kernel_rfl) (by kernel_rfl) (by kernel_rfl) (by kernel_rfl) (by kernel_rfl) (laidWorld_met os _)) ?_
  intro W base args ds gs before hval0 hW _ _ hL _
  have hval : ∀ (j : Nat) t v, Tryd.f9.params[j]? = some t → args[j]? = some v → Value.okWide Tryd.prog W .any base t v := hval0
  have hb0 : base = 0 ∨ True := .inr trivial
  have hW' := hW
  obtain ⟨p, q, hA0, hV, rfl, hfz, hnd⟩ := hW
  have hA : DataW.TrodAll enc Tryd.prog W 0 (fun _ => true) true Tryd.f9.params.toList args.toList ds p := hA0
  rw [Tryd.params9] at hA hval
  obtain ⟨v0, v1, d0, d1, p0, p1, rfl, rfl, rfl, h0, h1⟩ := trodAll_two hA
  obtain ⟨rfl, rfl⟩ := trodVars_none hV
  have hg := handle_of_laid hL
  clear hA0 hval0
  have fin : ∀ xs : Array Value, xs = #[v0, v1] → Calls Tryd.prog 9 xs W (fun e W' => e = .returned (.bool true) ∧ Below W.heap.size W W') →
      Calls Tryd.prog 9 xs W (fun e W' => ∃ v, e = .returned v ∧ Rows.devLooseSpec.post enc Tryd.prog Tryd.f9 false true false false W xs v W') := fun xs ha hc => by
    subst ha
    refine hc.mono fun e W' hh => ?_
    obtain ⟨he, hb⟩ := hh
    exact ⟨_, he, post_true hW' rfl rfl (fun t ht => by
      rw [Tryd.params9] at ht
      simp at ht; rcases ht with rfl | rfl <;> exact ⟨by kernel_rfl, by rw [ntypes]; decide⟩) rfl hb⟩
  obtain ⟨A, cp, ns, rfl, _, _, hat, _, _⟩ := open_ints' Tryd.underlying33 Tryd.underlying3 (by kernel_rfl) (hval 0 33 v0 rfl rfl) h0
  obtain ⟨A2, cp2, keep, rfl, _, _, hsrc, _⟩ := open_bools' Tryd.underlying22 Tryd.underlying4 (by kernel_rfl) (hval 1 22 v1 rfl rfl) h1
  refine fin _ rfl ?_
  exact Spec.below (law_DevLoose W W.heap.size (heap_pos hg) hg A cp ns hat A2 cp2 keep hsrc)

theorem devLoose_holds : Rows.DevLooseSaid :=
  OpenClaim.holds_of_wide 9 Tryd.f9 rfl rfl rfl rfl rfl rfl rfl ⟨rfl, rfl, rfl, rfl, rfl⟩ rfl rfl rfl rfl rfl (by kernel_rfl) Tryd.func9 (by kernel_rfl)
    (of_decide_eq_true (by kernel_rfl)) (by unfold Func.isWrapper; rw [if_neg (of_decide_eq_false (by kernel_rfl))]; exact ⟨rfl, rfl⟩)
    (fun os started H enc _ => devLoose_lifted os started H enc)
theorem devLoose_card : Rows.DevLooseCardSaid :=
  Claim7.holds_tied_plain_at .later [] [.handle] true (true, "9d33f7a6d6dc3206f3e623cec8d5259f31e98f6248ceac0f7d9f80939beeefd8") true
    devLoose_holds (fun _ h => by cases h) (by kernel_rfl) (fun _ h => by cases h) devLoose_row_tie rfl ⟨rfl, rfl⟩ (by kernel_rfl) rfl
    (fun f fn hf hfn => by
      obtain rfl : f = 9 := Option.some.inj ((show Tryd.prog.funcNamed "fieldfare/fieldfarelaw1.DevLoose" = some 9 by kernel_rfl).symm.trans hf) |>.symm
      obtain rfl : fn = Tryd.f9 := (Option.some.inj (Tryd.func9.symm.trans hfn)).symm
      exact ⟨by kernel_rfl, fun j t ht => by
        rw [Tryd.params9] at ht
        have hm : t ∈ [33, 22] := by
          have := Array.mem_of_getElem? ht
          simpa using this
        simp at hm; rcases hm with rfl | rfl <;> exact (show Tryd.prog.wantsStandIn _ = false by kernel_rfl)⟩)
    (by kernel_rfl)
#print axioms devLoose_card
end Go.Proofs.YtmgpldgldgdenaaDoor
