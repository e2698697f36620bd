/-
  PROVED HERE: 'Rows.SlotAllCardSaid': the law 'fieldfarelaw4.SlotAll' returns true at every input, its arguments read as they did; errors.errorType is tied to the program's text.
-/
import Derived.Test.YtpnhonhjheahhaaDoorOpenS
import Derived.Test.YtpnhonhjheahhaaDoorLawSAll
import Derived.Test.YtpnhonhjheahhaaDoorCards
namespace Go.Proofs.YtpnhonhjheahhaaDoor
open Go.ChangeShapes Go.WideShapes Go.RowKit

set_option maxRecDepth 100000 in
theorem slotAll_lifted (os : Os) (started : os.Started) (H : Type) (enc : TypeId × Value → H) :
    ReturnsInHanded {} Tryd.checked os 12 .any (fun w args => (Rows.slotAllSpec.pre enc Tryd.prog Tryd.f12 [] false w args ∧ laidMetH Tryd.prog [("errors.errorType", Rows.laid_errors_errorType)] w) ∧ sizedMet enc Tryd.prog Tryd.f12 (OpenSpec.ofChange Rows.slotAllSpec) false w args)
      (Rows.slotAllSpec.post enc Tryd.prog Tryd.f12 false true false false) := by
  refine returnsInHanded_of_change_and (C := Tryd.checked) (X := fun w _ => laidMetH Tryd.prog [("errors.errorType", Rows.laid_errors_errorType)] w) (fun _ _ _ hh h => h.of_heap hh) own started (by kernel_rfl) Tryd.func12
    (ChangeSpec.witness_at (enc := enc) (C := Tryd.checked) (os := os) (X := fun w _ => laidMetH Tryd.prog [("errors.errorType", Rows.laid_errors_errorType)] w) false (laidWorld os) #[.slice none 0 0, .int .i64 0, .slice none 0 0] 8 rfl (by kernel_rfl) (by kernel_rfl) (by kernel_rfl) (by kernel_rfl) (by kernel_rfl) (laidWorld_met os _)) ?_
  intro W base args ds gs before hval0 hW _ _ hL _
  have hval : ∀ (j : Nat) t v, Tryd.f12.params[j]? = some t → args[j]? = some v → Value.okWide Tryd.prog W .any base t v := hval0
  have hb0 : base = 0 ∨ True := .inr trivial
  have hW' := hW
  obtain ⟨p, q, hA0, hV, rfl, hfz, hnd⟩ := hW
  have hA : DataW.TrodAll enc Tryd.prog W 0 (fun _ => true) true Tryd.f12.params.toList args.toList ds p := hA0
  rw [Tryd.params12] at hA hval
  obtain ⟨v0, v1, v2, d0, d1, d2, p0, p1, p2, rfl, rfl, rfl, h0, h1, h2⟩ := trodAll_three hA
  obtain ⟨rfl, rfl⟩ := trodVars_none hV
  have hg := handle_of_laid hL
  clear hA0 hval0
  have fin : ∀ xs : Array Value, xs = #[v0, v1, v2] → Calls Tryd.prog 12 xs W (fun e W' => e = .returned (.bool true) ∧ Below W.heap.size W W') →
      Calls Tryd.prog 12 xs W (fun e W' => ∃ v, e = .returned v ∧ Rows.slotAllSpec.post enc Tryd.prog Tryd.f12 false true false false W xs v W') := fun xs ha hc => by
    subst ha
    refine hc.mono fun e W' hh => ?_
    obtain ⟨he, hb⟩ := hh
    exact ⟨_, he, post_true hW' rfl rfl (fun t ht => by
      rw [Tryd.params12] at ht
      simp at ht; rcases ht with rfl | rfl | rfl <;> exact ⟨by kernel_rfl, by rw [ntypes]; decide⟩) rfl hb⟩
  obtain ⟨A, cp, l, rfl, _, _, hat, _, hel⟩ := open_intss' Tryd.underlying66 Tryd.underlying47 Tryd.underlying2 (by kernel_rfl) (by kernel_rfl) (hval 0 66 v0 rfl rfl) h0
  obtain ⟨n, rfl, rfl, rfl, wn⟩ := open_int Tryd.underlying3 (hval 1 3 v1 rfl rfl) h1
  obtain ⟨A3, cp3, keep, rfl, _, _, hsrc, _⟩ := open_bools' Tryd.underlying35 Tryd.underlying4 (by kernel_rfl) (hval 2 35 v2 rfl rfl) h2
  refine fin _ rfl ?_
  exact Spec.below (law_SlotAll W W.heap.size (heap_pos hg) hg A cp l hat (fun x hx => ⟨(hel x hx).1, (hel x hx).2.2.1, fun n hn => wf_i64 ((hel x hx).2.2.2 n hn)⟩) n (wf_i64 wn) A3 cp3 keep hsrc)

theorem slotAll_holds : Rows.SlotAllSaid :=
  OpenClaim.holds_of_wide 12 Tryd.f12 rfl rfl rfl rfl rfl rfl rfl ⟨rfl, rfl, rfl, rfl, rfl⟩ rfl rfl rfl rfl rfl (by kernel_rfl) Tryd.func12 (by kernel_rfl)
    (of_decide_eq_true (by kernel_rfl)) (by unfold Func.isWrapper; rw [if_neg (of_decide_eq_false (by kernel_rfl))]; exact ⟨rfl, rfl⟩)
    (fun os started H enc _ => slotAll_lifted os started H enc)
theorem slotAll_card : Rows.SlotAllCardSaid :=
  Claim7.holds_tied_plain_at .later [] [.handle] true (true, "96bf07c8dc316df8040450c682116fc92989d80005d862ad7dce010db00b13c1") true
    slotAll_holds (fun _ h => by cases h) (by kernel_rfl) (fun _ h => by cases h) slotAll_row_tie rfl ⟨rfl, rfl⟩ (by kernel_rfl) rfl
    (fun f fn hf hfn => by
      obtain rfl : f = 12 := Option.some.inj ((show Tryd.prog.funcNamed "fieldfare/fieldfarelaw4.SlotAll" = some 12 by kernel_rfl).symm.trans hf) |>.symm
      obtain rfl : fn = Tryd.f12 := (Option.some.inj (Tryd.func12.symm.trans hfn)).symm
      exact ⟨by kernel_rfl, fun j t ht => by
        rw [Tryd.params12] at ht
        have hm : t ∈ [66, 3, 35] := by
          have := Array.mem_of_getElem? ht
          simpa using this
        simp at hm; rcases hm with rfl | rfl | rfl <;> exact (show Tryd.prog.wantsStandIn _ = false by kernel_rfl)⟩)
    (by kernel_rfl)
#print axioms slotAll_card
end Go.Proofs.YtpnhonhjheahhaaDoor
