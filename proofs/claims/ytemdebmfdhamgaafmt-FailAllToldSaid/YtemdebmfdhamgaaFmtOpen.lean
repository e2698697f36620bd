/-
  ARGUMENTS OPENED: slices of bools, numbers, bytes, texts, as Lean lists that lie in old memory.
-/
import Derived.Test.YtemdebmfdhamgaaFmtRow
namespace Go.Proofs.YtemdebmfdhamgaaFmt
open Go.ChangeShapes Go.WideShapes Go.RowKit Go.Deep

theorem list_of {α : Type} {f : α → Value} {p : α → Prop} : ∀ (vs : List Value), (∀ u ∈ vs, ∃ x, u = f x ∧ p x) → ∃ xs : List α, vs = xs.map f ∧ ∀ x ∈ xs, p x
  | [], _ => ⟨[], rfl, fun _ h => by cases h⟩
  | v :: vs, h => by
    obtain ⟨x, rfl, hp⟩ := h v (by simp)
    obtain ⟨xs, rfl, hps⟩ := list_of vs (fun u hu => h u (by simp [hu]))
    exact ⟨x :: xs, rfl, fun y hy => by
      rcases List.mem_cons.1 hy with rfl | hy
      · exact hp
      · exact hps y hy⟩

section
variable {H : Type} {enc : TypeId × Value → H} {P : Program} {W : World}
theorem open_src {r : Reach} {b0 : Nat} {t e : TypeId} {v : Value} {d : DataW H} {ps : List MemPlace} (ht : P.underlying t = some (.slice e)) (hc : P.cellsOf e = 1) (hv : Value.okWide P W r b0 t v) (h : DataW.Trod enc P W 0 (fun _ => true) true t v d ps) :
    ∃ A cp vs, v = .slice A vs.length cp ∧ vs.length ≤ cp ∧ cp ≤ maxLen ∧ Src W W.heap.size [] A vs ∧ (A = none → vs.length = 0) ∧ ∀ u ∈ vs, ∃ n x, DataW.trod enc P W 0 (fun _ => true) true n e [u] = some x := by
  obtain ⟨a, l, c, rfl⟩ := okWide_slice ht hv
  obtain ⟨fuel, hf⟩ := h
  rcases open_slice1 ht hc hf with ⟨h0, _⟩ | ⟨a', len, cap, m, n, V, D, Pl, h1, hb, hl, hm, hmm, hx, hcell⟩
  · simp [Value.cells] at h0
    obtain ⟨rfl, rfl, rfl⟩ := h0
    exact ⟨none, 0, [], rfl, Nat.le_refl _, by simp [maxLen], Src.nil, fun _ => rfl, fun _ hu => by cases hu⟩
  · simp [Value.cells] at h1
    obtain ⟨rfl, rfl, rfl⟩ := h1
    simp only [if_true] at hmm
    subst hmm
    refine ⟨some a', m, (List.range l).map V, by simp, by simpa using hl, hm, ?_, fun h => (by cases h), ?_⟩
    · rcases Nat.eq_zero_or_pos l with rfl | hpos
      · exact .inl rfl
      · refine .inr ⟨a', rfl, .inl ⟨?_, fun j u hj => ?_⟩⟩
        · have := block_lt (hcell 0 (by omega)).1
          rwa [block_of_add] at this
        · have hjl : j < l := by
            have := (List.getElem?_eq_some_iff.1 hj).1
            simpa using this
          simp [hjl] at hj
          subst hj
          exact (hcell j (by omega)).1
    · intro u hu
      obtain ⟨j, hj, rfl⟩ := List.mem_map.1 hu
      have := List.mem_range.1 hj
      exact ⟨n, _, (hcell j (by omega)).2⟩

theorem open_bools' {r : Reach} {b0 : Nat} {t e : TypeId} {v : Value} {d : DataW H} {ps : List MemPlace} (ht : P.underlying t = some (.slice e)) (he : P.underlying e = some .bool) (hc : P.cellsOf e = 1) (hv : Value.okWide P W r b0 t v) (h : DataW.Trod enc P W 0 (fun _ => true) true t v d ps) :
    ∃ A cp, ∃ keep : List Bool, v = .slice A keep.length cp ∧ keep.length ≤ cp ∧ cp ≤ maxLen ∧ Src W W.heap.size [] A (keep.map .bool) ∧ (A = none → keep.length = 0) := by
  obtain ⟨A, cp, vs, rfl, hl, hm, hs, hA, hel⟩ := open_src ht hc hv h
  obtain ⟨xs, rfl, _⟩ := list_of (f := Value.bool) (p := fun _ => True) vs (fun u hu => by
    obtain ⟨n, x, hx⟩ := hel u hu
    obtain ⟨b, h1, _⟩ := DataW.trod_bool he hx
    exact ⟨b, by simpa using h1, trivial⟩)
  exact ⟨A, cp, xs, by simp, by simpa using hl, hm, hs, by simpa using hA⟩
theorem open_ints' {r : Reach} {b0 : Nat} {t e : TypeId} {k : IntKind} {v : Value} {d : DataW H} {ps : List MemPlace} (ht : P.underlying t = some (.slice e)) (he : P.underlying e = some (.int k)) (hc : P.cellsOf e = 1) (hv : Value.okWide P W r b0 t v) (h : DataW.Trod enc P W 0 (fun _ => true) true t v d ps) :
    ∃ A cp, ∃ ns : List Int, v = .slice A ns.length cp ∧ ns.length ≤ cp ∧ cp ≤ maxLen ∧ Src W W.heap.size [] A (ns.map (.int k)) ∧ (A = none → ns.length = 0) ∧ ∀ n ∈ ns, (Lit.int k n).wf = true := by
  obtain ⟨A, cp, vs, rfl, hl, hm, hs, hA, hel⟩ := open_src ht hc hv h
  obtain ⟨xs, rfl, hp⟩ := list_of (f := Value.int k) (p := fun n => (Lit.int k n).wf = true) vs (fun u hu => by
    obtain ⟨n, x, hx⟩ := hel u hu
    obtain ⟨b, h1, _, hw⟩ := DataW.trod_int he hx
    exact ⟨b, by simpa using h1, hw⟩)
  exact ⟨A, cp, xs, by simp, by simpa using hl, hm, hs, by simpa using hA, hp⟩
theorem open_strs' {r : Reach} {b0 : Nat} {t e : TypeId} {v : Value} {d : DataW H} {ps : List MemPlace} (ht : P.underlying t = some (.slice e)) (he : P.underlying e = some .string) (hc : P.cellsOf e = 1) (hv : Value.okWide P W r b0 t v) (h : DataW.Trod enc P W 0 (fun _ => true) true t v d ps) :
    ∃ A cp, ∃ ss : List (List UInt8), v = .slice A ss.length cp ∧ ss.length ≤ cp ∧ cp ≤ maxLen ∧ Src W W.heap.size [] A (ss.map strV) ∧ (A = none → ss.length = 0) ∧ ∀ s ∈ ss, s.length ≤ maxLen := by
  obtain ⟨A, cp, vs, rfl, hl, hm, hs, hA, hel⟩ := open_src ht hc hv h
  obtain ⟨xs, rfl, hp⟩ := list_of (f := strV) (p := fun s => s.length ≤ maxLen) vs (fun u hu => by
    obtain ⟨n, x, hx⟩ := hel u hu
    obtain ⟨s, h1, _, hw⟩ := DataW.trod_string he hx
    exact ⟨s.data.toList, by have h2 : u = .string s := (by simpa using h1); rw [h2]; rfl, by rw [Array.length_toList]; exact hw⟩)
  exact ⟨A, cp, xs, by simp, by simpa using hl, hm, hs, by simpa using hA, hp⟩
end
theorem wf_i64 {n : Int} (h : (Lit.int .i64 n).wf = true) : I64 n := bounds_i64 h
theorem wf_u8 {n : Int} (h : (Lit.int .u8 n).wf = true) : ∃ x : UInt8, n = (x.toNat : Int) := by
  have h1 : IntKind.u8.min = 0 := by decide
  have h2 : IntKind.u8.max = 255 := by decide
  simp only [Lit.wf, h1, h2, Bool.and_eq_true, decide_eq_true_eq] at h
  refine ⟨UInt8.ofNat n.toNat, ?_⟩
  rw [UInt8.toNat_ofNat']
  omega
theorem wf_bytes : ∀ {ns : List Int}, (∀ n ∈ ns, (Lit.int .u8 n).wf = true) → ∃ bs : List UInt8, ns.map (Value.int .u8) = bs.map u8v ∧ ns.length = bs.length
  | [], _ => ⟨[], rfl, rfl⟩
  | n :: ns, h => by
    obtain ⟨x, hx⟩ := wf_u8 (h n (by simp))
    obtain ⟨bs, hb, hl⟩ := wf_bytes (ns := ns) (fun m hm => h m (by simp [hm]))
    exact ⟨x :: bs, by simp [hb, hx, u8v], by simp [hl]⟩
end Go.Proofs.YtemdebmfdhamgaaFmt
