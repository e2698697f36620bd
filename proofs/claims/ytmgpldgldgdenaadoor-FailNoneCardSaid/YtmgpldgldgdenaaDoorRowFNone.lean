/-
  PROVED HERE: 'Rows.FailNoneCardSaid': the law 'fieldfarelaw1.FailNone' returns true at every input, its arguments read as they did; errors.errorType is tied to the program's text.
-/
import Derived.Test.YtmgpldgldgdenaaDoorOpen
import Derived.Test.YtmgpldgldgdenaaDoorLawFNone
import Derived.Test.YtmgpldgldgdenaaDoorCards
namespace Go.Proofs.YtmgpldgldgdenaaDoor
open Go.ChangeShapes Go.WideShapes Go.RowKit

set_option maxRecDepth 100000 in
theorem failNone_lifted (os : Os) (started : os.Started) (H : Type) (enc : TypeId × Value → H) :
    ReturnsInHanded {} Tryd.checked os 15 .any (fun w args => (Rows.failNoneSpec.pre enc Tryd.prog Tryd.f15 [] false w args ∧ laidMetH Tryd.prog [("errors.errorType", Rows.laid_errors_errorType)] w) ∧ sizedMet enc Tryd.prog Tryd.f15 (OpenSpec.ofChange Rows.failNoneSpec) false w args)
      (Rows.failNoneSpec.post enc Tryd.prog Tryd.f15 false true false false) := by
  refine returnsInHanded_of_change_and (C := Tryd.checked) (X := fun w _ => laidMetH Tryd.prog [("errors.errorType", Rows.laid_errors_errorType)] w) (fun _ _ _ hh h => h.of_heap hh) own started (by kernel_rfl) Tryd.func15
    (ChangeSpec.witness_at (enc := enc) (C := Tryd.checked) (os := os) (X := fun w _ => laidMetH Tryd.prog [("errors.errorType", Rows.laid_errors_errorType)] w) false (laidWorld os) #[.string ⟨#[]⟩, .int .i64 0, .int .i64 0] 8 rfl (by kernel_rfl) (by kernel_rfl) (by kernel_rfl) (by kernel_rfl) (by kernel_rfl) (laidWorld_met os _)) ?_
  intro W base args ds gs before hval0 hW _ _ hL _
  have hval : ∀ (j : Nat) t v, Tryd.f15.params[j]? = some t → args[j]? = some v → Value.okWide Tryd.prog W .any base t v := hval0
  have hb0 : base = 0 ∨ True := .inr trivial
  have hW' := hW
  obtain ⟨p, q, hA0, hV, rfl, hfz, hnd⟩ := hW
  have hA : DataW.TrodAll enc Tryd.prog W 0 (fun _ => true) true Tryd.f15.params.toList args.toList ds p := hA0
  rw [Tryd.params15] at hA hval
  obtain ⟨v0, v1, v2, d0, d1, d2, p0, p1, p2, rfl, rfl, rfl, h0, h1, h2⟩ := trodAll_three hA
  obtain ⟨rfl, rfl⟩ := trodVars_none hV
  have hg := handle_of_laid hL
  clear hA0 hval0
  have fin : ∀ xs : Array Value, xs = #[v0, v1, v2] → Calls Tryd.prog 15 xs W (fun e W' => e = .returned (.bool true) ∧ Below W.heap.size W W') →
      Calls Tryd.prog 15 xs W (fun e W' => ∃ v, e = .returned v ∧ Rows.failNoneSpec.post enc Tryd.prog Tryd.f15 false true false false W xs v W') := fun xs ha hc => by
    subst ha
    refine hc.mono fun e W' hh => ?_
    obtain ⟨he, hb⟩ := hh
    exact ⟨_, he, post_true hW' rfl rfl (fun t ht => by
      rw [Tryd.params15] at ht
      simp at ht; rcases ht with rfl | rfl <;> exact ⟨by kernel_rfl, by rw [ntypes]; decide⟩) rfl hb⟩
  obtain ⟨s, rfl, rfl, rfl, ws⟩ := Go.ChangeMaps.open_string Tryd.underlying9 (hval 0 9 v0 rfl rfl) h0
  obtain ⟨n, rfl, rfl, rfl, wn⟩ := open_int Tryd.underlying3 (hval 1 3 v1 rfl rfl) h1
  obtain ⟨k, rfl, rfl, rfl, wk⟩ := open_int Tryd.underlying3 (hval 2 3 v2 rfl rfl) h2
  refine fin _ rfl ?_
  exact Spec.below (law_FailNone W W.heap.size (heap_pos hg) hg s.data.toList n k)

theorem failNone_holds : Rows.FailNoneSaid :=
  OpenClaim.holds_of_wide 15 Tryd.f15 rfl rfl rfl rfl rfl rfl rfl ⟨rfl, rfl, rfl, rfl, rfl⟩ rfl rfl rfl rfl rfl (by kernel_rfl) Tryd.func15 (by kernel_rfl)
    (of_decide_eq_true (by kernel_rfl)) (by unfold Func.isWrapper; rw [if_neg (of_decide_eq_false (by kernel_rfl))]; exact ⟨rfl, rfl⟩)
    (fun os started H enc _ => failNone_lifted os started H enc)
theorem failNone_card : Rows.FailNoneCardSaid :=
  Claim7.holds_tied_plain_at .later [] [.handle] true (true, "9d33f7a6d6dc3206f3e623cec8d5259f31e98f6248ceac0f7d9f80939beeefd8") true
    failNone_holds (fun _ h => by cases h) (by kernel_rfl) (fun _ h => by cases h) failNone_row_tie rfl ⟨rfl, rfl⟩ (by kernel_rfl) rfl
    (fun f fn hf hfn => by
      obtain rfl : f = 15 := Option.some.inj ((show Tryd.prog.funcNamed "fieldfare/fieldfarelaw1.FailNone" = some 15 by kernel_rfl).symm.trans hf) |>.symm
      obtain rfl : fn = Tryd.f15 := (Option.some.inj (Tryd.func15.symm.trans hfn)).symm
      exact ⟨by kernel_rfl, fun j t ht => by
        rw [Tryd.params15] at ht
        have hm : t ∈ [9, 3, 3] := by
          have := Array.mem_of_getElem? ht
          simpa using this
        simp at hm; rcases hm with rfl | rfl <;> exact (show Tryd.prog.wantsStandIn _ = false by kernel_rfl)⟩)
    (by kernel_rfl)
#print axioms failNone_card
end Go.Proofs.YtmgpldgldgdenaaDoor
