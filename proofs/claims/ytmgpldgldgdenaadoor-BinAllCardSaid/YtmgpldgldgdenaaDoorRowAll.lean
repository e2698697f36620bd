/-
  PROVED HERE: 'Rows.BinAllCardSaid': the law 'fieldfarelaw1.BinAll' returns true at every input, its arguments read as they did; errors.errorType is tied to the program's text.
-/
import Derived.Test.YtmgpldgldgdenaaDoorOpen
import Derived.Test.YtmgpldgldgdenaaDoorLawAll
import Derived.Test.YtmgpldgldgdenaaDoorCards
namespace Go.Proofs.YtmgpldgldgdenaaDoor
open Go.ChangeShapes Go.WideShapes Go.RowKit

set_option maxRecDepth 100000 in
theorem binAll_lifted (os : Os) (started : os.Started) (H : Type) (enc : TypeId × Value → H) :
    ReturnsInHanded {} Tryd.checked os 4 .any (fun w args => (Rows.binAllSpec.pre enc Tryd.prog Tryd.f4 [] false w args ∧ laidMetH Tryd.prog [("errors.errorType", Rows.laid_errors_errorType)] w) ∧ sizedMet enc Tryd.prog Tryd.f4 (OpenSpec.ofChange Rows.binAllSpec) false w args)
      (Rows.binAllSpec.post enc Tryd.prog Tryd.f4 false true false false) := by
  refine returnsInHanded_of_change_and (C := Tryd.checked) (X := fun w _ => laidMetH Tryd.prog [("errors.errorType", Rows.laid_errors_errorType)] w) (fun _ _ _ hh h => h.of_heap hh) own started (by kernel_rfl) Tryd.func4
    (ChangeSpec.witness_at (enc := enc) (C := Tryd.checked) (os := os) (X := fun w _ => laidMetH Tryd.prog [("errors.errorType", Rows.laid_errors_errorType)] w) false (laidWorld os) #[.slice none 0 0, .slice none 0 0, .int .i64 0, .slice none 0 0, .slice none 0 0] 8 rfl (by kernel_rfl) (by kernel_rfl) (by kernel_rfl) (by kernel_rfl) (by kernel_rfl) (laidWorld_met os _)) ?_
  intro W base args ds gs before hval0 hW _ _ hL _
  have hval : ∀ (j : Nat) t v, Tryd.f4.params[j]? = some t → args[j]? = some v → Value.okWide Tryd.prog W .any base t v := hval0
  have hb0 : base = 0 ∨ True := .inr trivial
  have hW' := hW
  obtain ⟨p, q, hA0, hV, rfl, hfz, hnd⟩ := hW
  have hA : DataW.TrodAll enc Tryd.prog W 0 (fun _ => true) true Tryd.f4.params.toList args.toList ds p := hA0
  rw [Tryd.params4] at hA hval
  obtain ⟨v0, v1, v2, v3, v4, d0, d1, d2, d3, d4, p0, p1, p2, p3, p4, rfl, rfl, rfl, h0, h1, h2, h3, h4⟩ := trodAll_five hA
  obtain ⟨rfl, rfl⟩ := trodVars_none hV
  have hg := handle_of_laid hL
  clear hA0 hval0
  have fin : ∀ xs : Array Value, xs = #[v0, v1, v2, v3, v4] → Calls Tryd.prog 4 xs W (fun e W' => e = .returned (.bool true) ∧ Below W.heap.size W W') →
      Calls Tryd.prog 4 xs W (fun e W' => ∃ v, e = .returned v ∧ Rows.binAllSpec.post enc Tryd.prog Tryd.f4 false true false false W xs v W') := fun xs ha hc => by
    subst ha
    refine hc.mono fun e W' hh => ?_
    obtain ⟨he, hb⟩ := hh
    exact ⟨_, he, post_true hW' rfl rfl (fun t ht => by
      rw [Tryd.params4] at ht
      simp at ht; rcases ht with rfl | rfl | rfl | rfl | rfl <;> exact ⟨by kernel_rfl, by rw [ntypes]; decide⟩) rfl hb⟩
  obtain ⟨A, cp, ns, rfl, _, _, hat, _, hw⟩ := open_ints' Tryd.underlying36 Tryd.underlying2 (by kernel_rfl) (hval 0 36 v0 rfl rfl) h0
  obtain ⟨A1, cp1, ss, rfl, _, _, hat1, _, _⟩ := open_strs' Tryd.underlying37 Tryd.underlying9 (by kernel_rfl) (hval 1 37 v1 rfl rfl) h1
  obtain ⟨n, rfl, rfl, rfl, wn⟩ := open_int Tryd.underlying3 (hval 2 3 v2 rfl rfl) h2
  obtain ⟨A2, cp2, zs, rfl, hc2, _, hat2, hn2, hw2⟩ := open_ints' Tryd.underlying26 Tryd.underlying5 (by kernel_rfl) (hval 3 26 v3 rfl rfl) h3
  obtain ⟨A3, cp3, kinds, rfl, _, _, hat3, _⟩ := open_bools' Tryd.underlying22 Tryd.underlying4 (by kernel_rfl) (hval 4 22 v4 rfl rfl) h4
  obtain ⟨raw, hraw, hrl⟩ := wf_bytes hw2
  rw [hraw] at hat2
  refine fin _ rfl ?_
  rw [hrl] at hc2 hn2 ⊢
  exact Spec.below (law_BinAll W W.heap.size (heap_pos hg) hg A cp ns hat (fun n hn => wf_i64 (hw n hn)) A1 cp1 ss hat1 n A2 cp2 raw hc2 hat2 hn2 A3 cp3 kinds hat3)

theorem binAll_holds : Rows.BinAllSaid :=
  OpenClaim.holds_of_wide 4 Tryd.f4 rfl rfl rfl rfl rfl rfl rfl ⟨rfl, rfl, rfl, rfl, rfl⟩ rfl rfl rfl rfl rfl (by kernel_rfl) Tryd.func4 (by kernel_rfl)
    (of_decide_eq_true (by kernel_rfl)) (by unfold Func.isWrapper; rw [if_neg (of_decide_eq_false (by kernel_rfl))]; exact ⟨rfl, rfl⟩)
    (fun os started H enc _ => binAll_lifted os started H enc)
theorem binAll_card : Rows.BinAllCardSaid :=
  Claim7.holds_tied_plain_at .later [] [.handle] true (true, "9d33f7a6d6dc3206f3e623cec8d5259f31e98f6248ceac0f7d9f80939beeefd8") true
    binAll_holds (fun _ h => by cases h) (by kernel_rfl) (fun _ h => by cases h) binAll_row_tie rfl ⟨rfl, rfl⟩ (by kernel_rfl) rfl
    (fun f fn hf hfn => by
      obtain rfl : f = 4 := Option.some.inj ((show Tryd.prog.funcNamed "fieldfare/fieldfarelaw1.BinAll" = some 4 by kernel_rfl).symm.trans hf) |>.symm
      obtain rfl : fn = Tryd.f4 := (Option.some.inj (Tryd.func4.symm.trans hfn)).symm
      exact ⟨by kernel_rfl, fun j t ht => by
        rw [Tryd.params4] at ht
        have hm : t ∈ [36, 37, 3, 26, 22] := by
          have := Array.mem_of_getElem? ht
          simpa using this
        simp at hm; rcases hm with rfl | rfl | rfl | rfl | rfl <;> exact (show Tryd.prog.wantsStandIn _ = false by kernel_rfl)⟩)
    (by kernel_rfl)
#print axioms binAll_card
end Go.Proofs.YtmgpldgldgdenaaDoor
