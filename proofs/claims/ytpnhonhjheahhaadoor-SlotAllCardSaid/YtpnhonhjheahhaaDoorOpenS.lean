/-
  ARGUMENTS OPENED: a slice of slices of numbers, as a Lean list of lists that lie in old memory.
-/
import Derived.Test.YtpnhonhjheahhaaDoorOpen
import Derived.Test.YtpnhonhjheahhaaDoorLawSAll
namespace Go.Proofs.YtpnhonhjheahhaaDoor
open Go.ChangeShapes Go.WideShapes Go.RowKit Go.Deep
section
variable {H : Type} {enc : TypeId × Value → H} {P : Program} {W : World}
theorem open_src_in {t e : TypeId} {u : Value} {fuel : Nat} {x : DataW H × List MemPlace} (ht : P.underlying t = some (.slice e)) (hc : P.cellsOf e = 1) (h : DataW.trod enc P W 0 (fun _ => true) true fuel t [u] = some x) :
    ∃ A cp vs, u = .slice A vs.length cp ∧ vs.length ≤ cp ∧ cp ≤ maxLen ∧ Src W W.heap.size [] A vs ∧ (A = none → vs.length = 0) ∧ ∀ u ∈ vs, ∃ n x, DataW.trod enc P W 0 (fun _ => true) true n e [u] = some x := by
  rcases open_slice1 ht hc h with ⟨h0, _⟩ | ⟨a', len, cap, m, n, V, D, Pl, h1, hb, hl, hm, hmm, hx, hcell⟩
  · have h0 := List.head_eq_of_cons_eq h0
    exact ⟨none, 0, [], h0, Nat.le_refl _, by simp [maxLen], Src.nil, fun _ => rfl, fun _ hu => by cases hu⟩
  · have h1 := List.head_eq_of_cons_eq h1
    subst h1
    simp only [if_true] at hmm
    subst hmm
    refine ⟨some a', m, (List.range len).map V, by simp, by simpa using hl, hm, ?_, fun h => (by cases h), ?_⟩
    · rcases Nat.eq_zero_or_pos len with rfl | hpos
      · exact .inl rfl
      · refine .inr ⟨a', rfl, .inl ⟨?_, fun j u hj => ?_⟩⟩
        · have := block_lt (hcell 0 (by omega)).1
          rwa [block_of_add] at this
        · have hjl : j < len := by
            have := (List.getElem?_eq_some_iff.1 hj).1
            simpa using this
          simp [hjl] at hj
          subst hj
          exact (hcell j (by omega)).1
    · intro u hu
      obtain ⟨j, hj, rfl⟩ := List.mem_map.1 hu
      have := List.mem_range.1 hj
      exact ⟨n, _, (hcell j (by omega)).2⟩
theorem open_intss' {r : Reach} {b0 : Nat} {t e f : TypeId} {k : IntKind} {v : Value} {d : DataW H} {ps : List MemPlace} (ht : P.underlying t = some (.slice e)) (he : P.underlying e = some (.slice f)) (hf : P.underlying f = some (.int k)) (hc : P.cellsOf e = 1) (hcf : P.cellsOf f = 1) (hv : Value.okWide P W r b0 t v) (h : DataW.Trod enc P W 0 (fun _ => true) true t v d ps) :
    ∃ A cp, ∃ l : List (Option Addr × Nat × List Int), v = .slice A l.length cp ∧ l.length ≤ cp ∧ cp ≤ maxLen ∧ Src W W.heap.size [] A (l.map slV) ∧ (A = none → l.length = 0) ∧ ∀ x ∈ l, x.2.2.length ≤ x.2.1 ∧ x.2.1 ≤ maxLen ∧ Src W W.heap.size [] x.1 (x.2.2.map (.int k)) ∧ ∀ n ∈ x.2.2, (Lit.int k n).wf = true := by
  obtain ⟨A, cp, vs, rfl, hl, hm, hs, hA, hel⟩ := open_src ht hc hv h
  obtain ⟨l, rfl, hp⟩ := list_of (f := slV) (p := fun x => x.2.2.length ≤ x.2.1 ∧ x.2.1 ≤ maxLen ∧ Src W W.heap.size [] x.1 (x.2.2.map (.int k)) ∧ ∀ n ∈ x.2.2, (Lit.int k n).wf = true) vs (fun u hu => by
    obtain ⟨n, x, hx⟩ := hel u hu
    obtain ⟨A2, cp2, ws, rfl, h1, h2, h3, _, h5⟩ := open_src_in he hcf hx
    obtain ⟨ns, rfl, h6⟩ := list_of (f := Value.int k) (p := fun n => (Lit.int k n).wf = true) ws (fun u hu => by
      obtain ⟨n, x, hx⟩ := h5 u hu
      obtain ⟨m, h, _, hw⟩ := DataW.trod_int hf hx
      exact ⟨m, by simpa using h, hw⟩)
    exact ⟨(A2, cp2, ns), by simp [slV], by simpa using h1, h2, h3, h6⟩)
  exact ⟨A, cp, l, by simp, by simpa using hl, hm, hs, by simpa using hA, hp⟩
end
end Go.Proofs.YtpnhonhjheahhaaDoor
