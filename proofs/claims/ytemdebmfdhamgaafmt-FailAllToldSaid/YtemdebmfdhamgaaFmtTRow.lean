/-
  THE FRAME OF A TOLD ROW: slices of texts opened with the bound on each text; the program's stops.
-/
import Derived.Test.YtemdebmfdhamgaaFmtOpen
import Derived.Stop.JoinedTold
import Derived.SevenTiedAt
import Derived.SizedLaws
namespace Go.Proofs.YtemdebmfdhamgaaFmt
open Go.ChangeShapes Go.WideShapes Go.RowKit Go.Deep
theorem stops_are : Tryf.pinned.checked.prog.stops = ["fmt.errorf, its operands' methods called"] := by kernel_rfl
theorem stopKnobs_are : Tryf.pinned.checked.prog.stopKnobs = [] := by kernel_rfl
theorem stop_quiet (os : Os) : Stop.quiet Tryf.pinned.checked.prog os := by
  intro k hk
  rw [stopKnobs_are] at hk
  cases hk
theorem weightsAll_mem {H : Type} {P : Program} {e : TypeId} : ∀ {l : List (DataW H)} {d : DataW H}, d ∈ l → ∀ k ∈ d.weights P e, k ∈ DataW.weightsAll P e l
  | x :: l, d, hd, k, hk => by
    simp only [DataW.weightsAll, List.mem_append]
    rcases List.mem_cons.1 hd with rfl | hd
    · exact .inl hk
    · exact .inr (weightsAll_mem hd k hk)
section
variable {H : Type} {enc : TypeId × Value → H} {P : Program} {W : World}
theorem open_srcD {r : Reach} {b0 : Nat} {t e : TypeId} {v : Value} {d : DataW H} {ps : List MemPlace} (ht : P.underlying t = some (.slice e)) (hc : P.cellsOf e = 1) (hv : Value.okWide P W r b0 t v) (h : DataW.Trod enc P W 0 (fun _ => true) true t v d ps) :
    ∃ A cp vs, v = .slice A vs.length cp ∧ vs.length ≤ cp ∧ cp ≤ maxLen ∧ Src W W.heap.size [] A vs ∧ (A = none → vs.length = 0) ∧ ∀ u ∈ vs, ∃ n x, DataW.trod enc P W 0 (fun _ => true) true n e [u] = some x ∧ ∀ k ∈ x.1.weights P e, k ∈ d.weights P t := by
  obtain ⟨a, l, c, rfl⟩ := okWide_slice ht hv
  obtain ⟨fuel, hf⟩ := h
  rcases open_slice1 ht hc hf with ⟨h0, _⟩ | ⟨a', len, cap, m, n, V, D, Pl, h1, hb, hl, hm, hmm, hx, hcell⟩
  · simp [Value.cells] at h0
    obtain ⟨rfl, rfl, rfl⟩ := h0
    exact ⟨none, 0, [], rfl, Nat.le_refl _, by simp [maxLen], Src.nil, fun _ => rfl, fun _ hu => by cases hu⟩
  · simp [Value.cells] at h1
    obtain ⟨rfl, rfl, rfl⟩ := h1
    simp only [if_true] at hmm
    subst hmm
    obtain ⟨rfl, _⟩ := Prod.mk.inj hx
    refine ⟨some a', m, (List.range l).map V, by simp, by simpa using hl, hm, ?_, fun h => (by cases h), ?_⟩
    · rcases Nat.eq_zero_or_pos l with rfl | hpos
      · exact .inl rfl
      · refine .inr ⟨a', rfl, .inl ⟨?_, fun j u hj => ?_⟩⟩
        · have := block_lt (hcell 0 (by omega)).1
          rwa [block_of_add] at this
        · have hjl : j < l := by
            have := (List.getElem?_eq_some_iff.1 hj).1
            simpa using this
          simp [hjl] at hj
          subst hj
          exact (hcell j (by omega)).1
    · intro u hu
      obtain ⟨j, hj, rfl⟩ := List.mem_map.1 hu
      have hj' := List.mem_range.1 hj
      refine ⟨n, _, (hcell j (by omega)).2, fun k hk => ?_⟩
      simp only [DataW.weights, ht, List.mem_cons, List.mem_append]
      exact .inr (.inl (weightsAll_mem (List.mem_map_of_mem hj) k hk))
theorem open_strsW {r : Reach} {b0 : Nat} {t e : TypeId} {v : Value} {d : DataW H} {ps : List MemPlace} {ts : List TypeId} {ds : List (DataW H)} {j : Nat} (hall : (DataW.weightsEach P ts ds).all (· ≤ reachBytes) = true) (htj : ts[j]? = some t) (hdj : ds[j]? = some d)
    (ht : P.underlying t = some (.slice e)) (he : P.underlying e = some .string) (hc : P.cellsOf e = 1) (hv : Value.okWide P W r b0 t v) (h : DataW.Trod enc P W 0 (fun _ => true) true t v d ps) :
    ∃ A cp, ∃ ss : List (List UInt8), v = .slice A ss.length cp ∧ ss.length ≤ cp ∧ cp ≤ maxLen ∧ Src W W.heap.size [] A (ss.map strV) ∧ (A = none → ss.length = 0) ∧ ∀ s ∈ ss, s.length ≤ 140737488355328 := by
  obtain ⟨A, cp, vs, rfl, hl, hm, hs, hA, hel⟩ := open_srcD ht hc hv h
  obtain ⟨xs, rfl, hp⟩ := list_of (f := strV) (p := fun s => s.length ≤ 140737488355328) vs (fun u hu => by
    obtain ⟨n, x, hx, hw⟩ := hel u hu
    obtain ⟨s, h1, h2, _⟩ := DataW.trod_string he hx
    subst h2
    refine ⟨s.data.toList, by have h2 : u = .string s := (by simpa using h1); rw [h2]; rfl, ?_⟩
    have h3 := hw s.data.toList.length (by simp [DataW.weights])
    have h4 := List.all_eq_true.1 hall _ (DataW.weights_mem_each htj hdj _ h3)
    have h5 := reachBytes_lt
    have h6 : s.data.toList.length ≤ reachBytes := by simpa using h4
    omega)
  exact ⟨A, cp, xs, by simp, by simpa using hl, hm, hs, by simpa using hA, hp⟩
end
end Go.Proofs.YtemdebmfdhamgaaFmt
