/-
  PROVED HERE: 'Rows.FailAllToldSaid': the law 'fieldfarelaw1.FailAll' returns true at every input, its arguments read as they did; errors.errorType is tied to the program's text; fmt's texts are told by the authors' own function (the answer does not hang on them).
-/
import Derived.Test.YtemdebmfdhamgaaFmtTRow
import Derived.Test.YtemdebmfdhamgaaFmtLawFAll0
import Derived.Test.YtemdebmfdhamgaaFmtLawFAll1
import Derived.Test.YtemdebmfdhamgaaFmtCards
namespace Go.Proofs.YtemdebmfdhamgaaFmt
open Go.ChangeShapes Go.WideShapes Go.RowKit
theorem law_FailAll (W : World) (B : Nat) (h0 : 0 < B) (hg : W.cell? ⟨0, 0, none⟩ = some (rty 26)) (A : Option Addr) (cp : Nat) (a : List (List UInt8)) (hac : a.length ≤ cp) (hA : Src W B [] A (a.map strV)) (hza : ∀ s ∈ a, s.length ≤ 140737488355328) (c0 : Int) :
    Spec Tryf.prog W B 4 [.slice A a.length cp, .int .i64 c0] [] (fun v post => v = .bool true ∧ post = []) := by
  obtain ⟨c, hc, hc14, hc1, hc2⟩ := mod_pos c0 14 (by decide) (by decide)
  by_cases h : c = 0
  · subst h
    exact law_FailAll0 W B h0 hg A cp a hac hA hza c0 hc hc1 hc2
  · exact law_FailAll1 W B h0 hg A cp a hac hA hza c0 (c : Int) (by omega) (by omega) hc14 hc hc1 hc2

set_option maxRecDepth 100000 in
theorem failAll_lifted (os : Os) (started : os.Started) (H : Type) (enc : TypeId × Value → H) :
    ReturnsInTold none {} Tryf.checked os 4 .any Input.okWide ((OpenSpec.ofChange Rows.failAllSpec).preRow enc Tryf.prog Tryf.f4 [] false [("errors.errorType", Rows.laid_errors_errorType)])
      (fun F => ((OpenSpec.ofChange Rows.failAllSpec).at F).post enc Tryf.prog Tryf.f4 false true false false) (aloneAtReturn Tryf.prog) nothingAlways := by
  refine returnsInTold_of_row (C := Tryf.checked) (s := OpenSpec.ofChange Rows.failAllSpec) (by kernel_rfl) own started (by kernel_rfl) Tryf.func4
    (OpenSpec.witness_stopped_at (enc := enc) (C := Tryf.checked) false (laidWorld os) #[.slice none 0 0, .int .i64 0] rfl (by kernel_rfl) (by kernel_rfl) (by kernel_rfl)
      (OpenSpec.preRow_of_B rfl 8 (by kernel_rfl) (by kernel_rfl) (laidWorld_met os _))) ?_
  intro F W base args ds gs before _ hF hval0 hW _ _ hsz0 hL _
  have hval : ∀ (j : Nat) t v, Tryf.f4.params[j]? = some t → args[j]? = some v → Value.okWide Tryf.prog W .any base t v := hval0
  have hsz : (DataW.weightsEach Tryf.prog (Tryf.f4.params.toList ++ []) (ds ++ gs)).all (· ≤ reachBytes) = true := hsz0
  have hW' := hW
  obtain ⟨p, q, hA0, hV, rfl, hfz, hnd⟩ := hW
  have hA : DataW.TrodAll enc Tryf.prog W 0 (fun _ => true) true Tryf.f4.params.toList args.toList ds p := hA0
  rw [Tryf.params4] at hA hval hsz
  obtain ⟨v0, v1, d0, d1, p0, p1, rfl, rfl, rfl, h0, h1⟩ := trodAll_two hA
  obtain ⟨rfl, rfl⟩ := trodVars_none hV
  have hg := handle_of_laid hL
  clear hA0 hval0 hsz0
  have fin : ∀ xs : Array Value, xs = #[v0, v1] → Calls Tryf.prog 4 xs W (fun e W' => e = .returned (.bool true) ∧ Below W.heap.size W W') →
      Calls Tryf.prog 4 xs W (fun e W' => ∃ v, e = .returned v ∧ Rows.failAllSpec.post enc Tryf.prog Tryf.f4 false true false false W xs v W') := fun xs ha hc => by
    subst ha
    refine hc.mono fun e W' hh => ?_
    obtain ⟨he, hb⟩ := hh
    exact ⟨_, he, post_true hW' rfl rfl (fun t ht => by
      rw [Tryf.params4] at ht
      simp at ht; rcases ht with rfl | rfl <;> exact ⟨by kernel_rfl, by rw [ntypes]; decide⟩) rfl hb⟩
  obtain ⟨A, cp, ss, rfl, hc, _, hat, _, hw⟩ := open_strsW (j := 0) hsz rfl rfl Tryf.underlying22 Tryf.underlying9 (by kernel_rfl) (hval 0 22 v0 rfl rfl) h0
  obtain ⟨n, rfl, rfl, rfl, wn⟩ := open_int Tryf.underlying3 (hval 1 3 v1 rfl rfl) h1
  refine fin _ rfl ?_
  exact Spec.below (law_FailAll W W.heap.size (heap_pos hg) hg A cp ss hc hat hw n)

theorem failAll_card : Rows.FailAllToldSaid :=
  Claim7.holds_of_told_tied_any_at .later 4 Tryf.f4 "fmt.errorf, its operands' methods called" [] [] _ _ _ _ _ (by kernel_rfl) rfl rfl rfl laidOut (by kernel_rfl) rfl ⟨rfl, rfl, rfl, rfl, rfl, rfl, rfl⟩ rfl rfl (by kernel_rfl) (by kernel_rfl) Tryf.func4 (by kernel_rfl)
    (of_decide_eq_true (by kernel_rfl)) (of_decide_eq_true (by kernel_rfl)) stops_are.symm rfl stopKnobs_are.symm (by kernel_rfl)
    (by kernel_rfl) (by kernel_rfl) (by kernel_rfl) (by kernel_rfl) (by kernel_rfl) (by kernel_rfl) (by kernel_rfl) (by kernel_rfl) (by kernel_rfl) rfl (by kernel_rfl) rfl rfl
    rfl rfl
    rfl (by kernel_rfl) (by kernel_rfl) (by kernel_rfl) (by decide) (by kernel_rfl) failAll_row_tie
    (OpenClaim.moreEntering_of (by kernel_rfl) (by kernel_rfl) (by kernel_rfl) (by kernel_rfl) (by kernel_rfl) (by kernel_rfl) (by kernel_rfl) (by kernel_rfl) (by kernel_rfl) (by kernel_rfl))
    ⟨_, WideRow.started_initial, stop_quiet _⟩
    (fun os started _ H enc _ => failAll_lifted os started H enc)
#print axioms failAll_card
end Go.Proofs.YtemdebmfdhamgaaFmt
