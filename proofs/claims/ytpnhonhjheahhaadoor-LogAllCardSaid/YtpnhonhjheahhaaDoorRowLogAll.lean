/-
  PROVED HERE: 'Rows.LogAllCardSaid': the law 'fieldfarelaw4.LogAll' returns true at every input, its arguments read as they did; errors.errorType is tied to the program's text.
-/
import Derived.Test.YtpnhonhjheahhaaDoorOpen
import Derived.Test.YtpnhonhjheahhaaDoorLawLogAll
import Derived.Test.YtpnhonhjheahhaaDoorCards
import Derived.Lib.SmallJoins
namespace Go.Proofs.YtpnhonhjheahhaaDoor
open Go.ChangeShapes Go.WideShapes Go.RowKit Go.Deep Go.Joins
section
variable {H : Type} {enc : TypeId × Value → H} {P : Program} {W : World}
theorem open_src0 {t e : TypeId} {v : Value} {fuel : Nat} {x : DataW H × List MemPlace} (ht : P.underlying t = some (.slice e)) (hc : P.cellsOf e = 1) (hf : DataW.trod enc P W 0 (fun _ => true) true fuel t [v] = some x) :
    ∃ A cp vs, v = .slice A vs.length cp ∧ vs.length ≤ cp ∧ Src W W.heap.size [] A vs ∧ (A = none → vs.length = 0) ∧ ∀ u ∈ vs, ∃ n x, DataW.trod enc P W 0 (fun _ => true) true n e [u] = some x := by
  rcases open_slice1 ht hc hf with ⟨h0, _⟩ | ⟨a', len, cap, m, n, V, D, Pl, h1, hb, hl, hm, hmm, hx, hcell⟩
  · simp at h0
    subst h0
    exact ⟨none, 0, [], rfl, Nat.le_refl _, Src.nil, fun _ => rfl, fun _ hu => by cases hu⟩
  · simp at h1
    subst h1
    simp only [if_true] at hmm
    subst hmm
    refine ⟨some a', m, (List.range len).map V, by simp, by simpa using hl, ?_, fun h => (by cases h), ?_⟩
    · rcases Nat.eq_zero_or_pos len with rfl | hpos
      · exact .inl rfl
      · refine .inr ⟨a', rfl, .inl ⟨?_, fun j u hj => ?_⟩⟩
        · have := block_lt (hcell 0 (by omega)).1
          rwa [block_of_add] at this
        · have hjl : j < len := by
            have := (List.getElem?_eq_some_iff.1 hj).1
            simpa using this
          simp [hjl] at hj
          subst hj
          exact (hcell j (by omega)).1
    · intro u hu
      obtain ⟨j, hj, rfl⟩ := List.mem_map.1 hu
      have := List.mem_range.1 hj
      exact ⟨n, _, (hcell j (by omega)).2⟩
theorem open_bools0 {t e : TypeId} {v : Value} {fuel : Nat} {x : DataW H × List MemPlace} (ht : P.underlying t = some (.slice e)) (he : P.underlying e = some .bool) (hc : P.cellsOf e = 1) (hf : DataW.trod enc P W 0 (fun _ => true) true fuel t [v] = some x) :
    ∃ A cp, ∃ keep : List Bool, v = .slice A keep.length cp ∧ Src W W.heap.size [] A (keep.map .bool) := by
  obtain ⟨A, cp, vs, rfl, hl, hs, hA, hel⟩ := open_src0 ht hc hf
  obtain ⟨xs, rfl, _⟩ := list_of (f := Value.bool) (p := fun _ => True) vs (fun u hu => by
    obtain ⟨n, x, hx⟩ := hel u hu
    obtain ⟨b, h1, _⟩ := DataW.trod_bool he hx
    exact ⟨b, by simpa using h1, trivial⟩)
  exact ⟨A, cp, xs, by simp, hs⟩
theorem open_op {e : TypeId} {f0 f1 f2 f3 : Field} {b : TypeId} {fuel : Nat} {cs : List Value} {x : DataW H × List MemPlace} (he : P.underlying e = some (.struct #[f0, f1, f2, f3])) (h4 : P.cellsOf e = 4)
    (h0 : f0.offset = 0 ∧ P.cellsOf f0.type = 1 ∧ P.underlying f0.type = some (.int .i64)) (h1 : f1.offset = 1 ∧ P.cellsOf f1.type = 1 ∧ P.underlying f1.type = some (.int .i64)) (h2 : f2.offset = 2 ∧ P.cellsOf f2.type = 1 ∧ P.underlying f2.type = some (.int .u8))
    (h3 : f3.offset = 3 ∧ P.cellsOf f3.type = 1 ∧ P.underlying f3.type = some (.slice b)) (hb : P.underlying b = some .bool) (hb1 : P.cellsOf b = 1) (h : DataW.trod enc P W 0 (fun _ => true) true fuel e cs = some x) :
    ∃ o : OpS, cs = opV o ∧ Src W W.heap.size [] o.A (o.keep.map .bool) ∧ I64 o.i := by
  obtain ⟨y0, y1, y2, y3, n, _, hl, t0, t1, t2, t3⟩ := trod_struct4 he h
  rw [h4] at hl
  obtain ⟨c0, c1, c2, c3, rfl⟩ : ∃ c0 c1 c2 c3, cs = [c0, c1, c2, c3] := by
    match cs, hl with
    | [c0, c1, c2, c3], _ => exact ⟨c0, c1, c2, c3, rfl⟩
  rw [h0.1, h0.2.1] at t0
  rw [h1.1, h1.2.1] at t1
  rw [h2.1, h2.2.1] at t2
  rw [h3.1, h3.2.1] at t3
  obtain ⟨k, e0, _, _⟩ := DataW.trod_int h0.2.2 t0
  obtain ⟨i, e1, _, wi⟩ := DataW.trod_int h1.2.2 t1
  obtain ⟨z, e2, _, wz⟩ := DataW.trod_int h2.2.2 t2
  obtain ⟨A, cp, keep, e3, hs⟩ := open_bools0 (v := c3) h3.2.2 hb hb1 (by simpa using t3)
  obtain ⟨u, rfl⟩ := wf_u8 wz
  simp at e0 e1 e2
  subst e0 e1 e2 e3
  exact ⟨⟨k, i, u, A, cp, keep⟩, rfl, hs, wf_i64 wi⟩
theorem open_ops {r : Reach} {b0 : Nat} {t e : TypeId} {f0 f1 f2 f3 : Field} {b : TypeId} {v : Value} {d : DataW H} {ps : List MemPlace} (ht : P.underlying t = some (.slice e)) (he : P.underlying e = some (.struct #[f0, f1, f2, f3])) (h4 : P.cellsOf e = 4)
    (h0 : f0.offset = 0 ∧ P.cellsOf f0.type = 1 ∧ P.underlying f0.type = some (.int .i64)) (h1 : f1.offset = 1 ∧ P.cellsOf f1.type = 1 ∧ P.underlying f1.type = some (.int .i64)) (h2 : f2.offset = 2 ∧ P.cellsOf f2.type = 1 ∧ P.underlying f2.type = some (.int .u8))
    (h3 : f3.offset = 3 ∧ P.cellsOf f3.type = 1 ∧ P.underlying f3.type = some (.slice b)) (hb : P.underlying b = some .bool) (hb1 : P.cellsOf b = 1) (hv : Value.okWide P W r b0 t v) (h : DataW.Trod enc P W 0 (fun _ => true) true t v d ps) :
    ∃ A cp, ∃ os : List OpS, v = .slice A os.length cp ∧ OpsAt W W.heap.size A os := by
  obtain ⟨a, l, c, rfl⟩ := okWide_slice ht hv
  obtain ⟨fuel, hf⟩ := h
  rcases open_slice ht hf with ⟨h0', _⟩ | ⟨a', len, cap, m, n, D, Pl, e1, _, hl, hm, hmm, hx, hcell⟩
  · simp [Value.cells] at h0'
    obtain ⟨rfl, rfl, rfl⟩ := h0'
    exact ⟨none, 0, [], rfl, .inl rfl⟩
  · simp [Value.cells] at e1
    obtain ⟨rfl, rfl, rfl⟩ := e1
    simp only [if_true] at hmm
    subst hmm
    rw [h4] at hcell
    have key : ∀ i, i < l → ∃ o : OpS, (∀ q v, (opV o)[q]? = some v → W.cell? ((a'.add (i * 4)).add q) = some v) ∧ Src W W.heap.size [] o.A (o.keep.map .bool) ∧ I64 o.i := fun i hi => by
      obtain ⟨cs', h5, h6⟩ := hcell i (by omega)
      obtain ⟨o, rfl, h7, h8⟩ := open_op he h4 h0 h1 h2 h3 hb hb1 h6
      obtain ⟨_, _, h9⟩ := World.cells?_some h5
      refine ⟨o, fun q v hq => ?_, h7, h8⟩
      have hq4 : q < 4 := by have := (List.getElem?_eq_some_iff.1 hq).1; simpa [opV] using this
      rw [h9 q hq4]; exact hq
    refine ⟨some a', m, (List.range l).map fun i => if h : i < l then Classical.choose (key i h) else ⟨0, 0, 0, none, 0, []⟩, by simp, ?_⟩
    rcases Nat.eq_zero_or_pos l with rfl | hpos
    · exact .inl rfl
    · refine .inr ⟨a', rfl, ?_, fun j o hj => ?_⟩
      · obtain ⟨cs', h5, h6⟩ := hcell 0 (by omega)
        obtain ⟨_, hln, h9⟩ := World.cells?_some h5
        have h10 := h9 0 (by omega)
        rw [List.getElem?_eq_getElem (by omega)] at h10
        have := block_lt h10
        rwa [block_of_add, block_of_add] at this
      · have hjl : j < l := by
          have := (List.getElem?_eq_some_iff.1 hj).1
          simpa using this
        simp [hjl] at hj
        subst hj
        exact Classical.choose_spec (key j hjl)
end

set_option maxRecDepth 100000 in
theorem logAll_lifted (os : Os) (started : os.Started) (H : Type) (enc : TypeId × Value → H) :
    ReturnsInHanded {} Tryd.checked os 15 .any (fun w args => (Rows.logAllSpec.pre enc Tryd.prog Tryd.f15 [] false w args ∧ laidMetH Tryd.prog [("errors.errorType", Rows.laid_errors_errorType)] w) ∧ sizedMet enc Tryd.prog Tryd.f15 (OpenSpec.ofChange Rows.logAllSpec) false w args)
      (Rows.logAllSpec.post enc Tryd.prog Tryd.f15 false true false false) := by
  refine returnsInHanded_of_change_and (C := Tryd.checked) (X := fun w _ => laidMetH Tryd.prog [("errors.errorType", Rows.laid_errors_errorType)] w) (fun _ _ _ hh h => h.of_heap hh) own started (by kernel_rfl) Tryd.func15
    (ChangeSpec.witness_at (enc := enc) (C := Tryd.checked) (os := os) (X := fun w _ => laidMetH Tryd.prog [("errors.errorType", Rows.laid_errors_errorType)] w) false (laidWorld os) #[.int .i64 0, .slice none 0 0] 8 rfl (by kernel_rfl) (by kernel_rfl) (by kernel_rfl) (by kernel_rfl) (by kernel_rfl) (laidWorld_met os _)) ?_
  intro W base args ds gs before hval0 hW _ _ hL _
  have hval : ∀ (j : Nat) t v, Tryd.f15.params[j]? = some t → args[j]? = some v → Value.okWide Tryd.prog W .any base t v := hval0
  have hb0 : base = 0 ∨ True := .inr trivial
  have hW' := hW
  obtain ⟨p, q, hA0, hV, rfl, hfz, hnd⟩ := hW
  have hA : DataW.TrodAll enc Tryd.prog W 0 (fun _ => true) true Tryd.f15.params.toList args.toList ds p := hA0
  rw [Tryd.params15] at hA hval
  obtain ⟨v0, v1, d0, d1, p0, p1, rfl, rfl, rfl, h0, h1⟩ := trodAll_two hA
  obtain ⟨rfl, rfl⟩ := trodVars_none hV
  have hg := handle_of_laid hL
  clear hA0 hval0
  have fin : ∀ xs : Array Value, xs = #[v0, v1] → Calls Tryd.prog 15 xs W (fun e W' => e = .returned (.bool true) ∧ Below W.heap.size W W') →
      Calls Tryd.prog 15 xs W (fun e W' => ∃ v, e = .returned v ∧ Rows.logAllSpec.post enc Tryd.prog Tryd.f15 false true false false W xs v W') := fun xs ha hc => by
    subst ha
    refine hc.mono fun e W' hh => ?_
    obtain ⟨he, hb⟩ := hh
    exact ⟨_, he, post_true hW' rfl rfl (fun t ht => by
      rw [Tryd.params15] at ht
      simp at ht; rcases ht with rfl | rfl <;> exact ⟨by kernel_rfl, by rw [ntypes]; decide⟩) rfl hb⟩
  obtain ⟨n, rfl, rfl, rfl, wn⟩ := open_int Tryd.underlying3 (hval 0 3 v0 rfl rfl) h0
  obtain ⟨A, cp, os, rfl, hos⟩ := open_ops Tryd.underlying71 Tryd.underlying73 (by kernel_rfl) ⟨rfl, by kernel_rfl, Tryd.underlying3⟩ ⟨rfl, by kernel_rfl, Tryd.underlying3⟩ ⟨rfl, by kernel_rfl, Tryd.underlying5⟩ ⟨rfl, by kernel_rfl, Tryd.underlying35⟩ Tryd.underlying4 (by kernel_rfl) (hval 1 71 v1 rfl rfl) h1
  refine fin _ rfl ?_
  exact Spec.below (law_LogAll W W.heap.size (heap_pos hg) hg n A cp os hos)

theorem logAll_holds : Rows.LogAllSaid :=
  OpenClaim.holds_of_wide 15 Tryd.f15 rfl rfl rfl rfl rfl rfl rfl ⟨rfl, rfl, rfl, rfl, rfl⟩ rfl rfl rfl rfl rfl (by kernel_rfl) Tryd.func15 (by kernel_rfl)
    (of_decide_eq_true (by kernel_rfl)) (by unfold Func.isWrapper; rw [if_neg (of_decide_eq_false (by kernel_rfl))]; exact ⟨rfl, rfl⟩)
    (fun os started H enc _ => logAll_lifted os started H enc)
theorem logAll_card : Rows.LogAllCardSaid :=
  Claim7.holds_tied_plain_at .later [] [.handle] true (true, "96bf07c8dc316df8040450c682116fc92989d80005d862ad7dce010db00b13c1") true
    logAll_holds (fun _ h => by cases h) (by kernel_rfl) (fun _ h => by cases h) logAll_row_tie rfl ⟨rfl, rfl⟩ (by kernel_rfl) rfl
    (fun f fn hf hfn => by
      obtain rfl : f = 15 := Option.some.inj ((show Tryd.prog.funcNamed "fieldfare/fieldfarelaw4.LogAll" = some 15 by kernel_rfl).symm.trans hf) |>.symm
      obtain rfl : fn = Tryd.f15 := (Option.some.inj (Tryd.func15.symm.trans hfn)).symm
      exact ⟨by kernel_rfl, fun j t ht => by
        rw [Tryd.params15] at ht
        have hm : t ∈ [3, 71] := by
          have := Array.mem_of_getElem? ht
          simpa using this
        simp at hm; rcases hm with rfl | rfl <;> exact (show Tryd.prog.wantsStandIn _ = false by kernel_rfl)⟩)
    (by kernel_rfl)
#print axioms logAll_card
end Go.Proofs.YtpnhonhjheahhaaDoor
