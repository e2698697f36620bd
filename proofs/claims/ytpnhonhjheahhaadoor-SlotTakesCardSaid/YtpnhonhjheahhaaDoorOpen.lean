/-
  ARGUMENTS OPENED: slices of bools, numbers, bytes, texts, as Lean lists that lie in old memory.
-/
import Derived.Test.YtpnhonhjheahhaaDoorBegun
import Derived.Test.YtpnhonhjheahhaaDoorRows
import Derived.Test.YtpnhonhjheahhaaDoorTie
import Derived.ProofKit
import Derived.LaidHandle
import Derived.ChangeVars
import Derived.LaidMore
import Derived.OpenShut
import Derived.Stop.Joined
import Derived.Deep.Grids
namespace Go.Proofs.YtpnhonhjheahhaaDoor
open Go.ChangeShapes Go.WideShapes Go.RowKit

theorem own : ownKnob Tryd.prog.godebug = none := by kernel_rfl
theorem laidOut : laidOutB Tryd.prog = true := by kernel_rfl
theorem etNamed : Tryd.prog.globalNamed "errors.errorType" = some 0 := by kernel_rfl
theorem rtCut : (Tryd.prog.cutTypes.find? (·.1 == "internal/reflectlite.rtype")).map (·.2) = some 144 := by kernel_rfl
theorem oneRow : ((List.range 188).filter fun t => Tryd.prog.rowNamed t [101, 114, 114, 111, 114]) = [110] := by kernel_rfl
theorem ntypes : Tryd.prog.types.size = 188 := by kernel_rfl
def laidE {H : Type} : List (String × DataW H) := [("errors.errorType", Rows.laid_errors_errorType)]
/-- What the condition gives a walk: the variable's one cell. -/
theorem handle_of_laid {W : World} (h : laidMetH Tryd.prog [("errors.errorType", Rows.laid_errors_errorType)] W) : W.cell? ⟨0, 0, none⟩ = some (rty 110) := by
  have h' : laidMet Tryd.prog [] W ∧ handlesMet Tryd.prog [("errors.errorType", Rows.laid_errors_errorType)] W := h
  obtain ⟨name, u, ty, e1, e2, e3, e4, e5⟩ := h'.2 _ (List.mem_singleton.2 rfl)
  have en : name = [101, 114, 114, 111, 114] := (Option.some.inj e1).symm
  subst en
  obtain rfl := Option.some.inj (rtCut.symm.trans e2)
  have hm : ty ∈ (List.range 188).filter fun t => Tryd.prog.rowNamed t [101, 114, 114, 111, 114] := List.mem_filter.2 ⟨List.mem_range.2 (by rw [← ntypes]; exact e3), e4⟩
  rw [oneRow] at hm
  obtain rfl := List.mem_singleton.1 hm
  have hh : typeHandle Tryd.prog 110 = .pointer (some ⟨1, 110, none⟩) := by kernel_rfl
  rw [hh] at e5
  simpa [rty, hd] using World.var?_cell etNamed e5 0
/-- A world that meets the condition. -/
noncomputable def laidWorld (os : Os) : World :=
  let w0 := World.holding Tryd.prog os ⟨#[], #[], []⟩
  { w0 with heap := w0.heap.modify 0 fun
      | .cells _ t frozen => .cells #[rty 110] t frozen
      | o => o }
theorem laidWorld_met (os : Os) (args : Array Value) : laidMetH Tryd.prog [("errors.errorType", Rows.laid_errors_errorType)] ((laidWorld os).forCall (fun _ _ => 0) ⟨#[], args, []⟩).memory :=
  laidMetH_of_parts (laidMet_nil _ _) (by kernel_rfl)

theorem trodAll_five {H : Type} {enc : TypeId × Value → H} {P : Program} {w : World} {base : Nat} {spare : Nat → Bool} {held : Bool} {t t' t'' t3 t4 : TypeId} {args : Array Value} {ds : List (DataW H)} {ps : List MemPlace} (h : DataW.TrodAll enc P w base spare held [t, t', t'', t3, t4] args.toList ds ps) :
    ∃ v v' v'' v3 v4 d d' d'' d3 d4 p p' p'' p3 p4, args = #[v, v', v'', v3, v4] ∧ ds = [d, d', d'', d3, d4] ∧ ps = p ++ p' ++ p'' ++ p3 ++ p4 ∧ DataW.Trod enc P w base spare held t v d p ∧ DataW.Trod enc P w base spare held t' v' d' p' ∧ DataW.Trod enc P w base spare held t'' v'' d'' p'' ∧ DataW.Trod enc P w base spare held t3 v3 d3 p3 ∧ DataW.Trod enc P w base spare held t4 v4 d4 p4 := by
  obtain ⟨v, vs, d, ds', p, q, hargs, rfl, rfl, hd, hrest⟩ := trodAll_cons h
  obtain ⟨v', vs', d', ds'', p', q', rfl, rfl, rfl, hd', hrest'⟩ := trodAll_cons hrest
  obtain ⟨v'', vs'', d'', ds''', p'', q'', rfl, rfl, rfl, hd'', hrest''⟩ := trodAll_cons hrest'
  obtain ⟨v3, vs3, d3, ds3, p3, q3, rfl, rfl, rfl, hd3, hrest3⟩ := trodAll_cons hrest''
  obtain ⟨v4, vs4, d4, ds4, p4, q4, rfl, rfl, rfl, hd4, hrest4⟩ := trodAll_cons hrest3
  obtain ⟨rfl, rfl, rfl⟩ := trodAll_nil hrest4
  exact ⟨v, v', v'', v3, v4, d, d', d'', d3, d4, p, p', p'', p3, p4, by cases args; simp_all, rfl, by simp, hd, hd', hd'', hd3, hd4⟩

/-- A contract over nothing, at the world itself. -/
theorem Spec.below {P : Program} {W : World} {f : FuncId} {args : List Value} (h : Spec P W W.heap.size f args [] (fun v post => v = .bool true ∧ post = [])) :
    Calls P f args.toArray W fun e W' => e = .returned (.bool true) ∧ Below W.heap.size W W' := by
  refine (h W (Old.refl _ _ (Nat.le_refl _)) ⟨by simp, fun r hr => by cases hr⟩).mono ?_
  rintro e W' ⟨v, post, rfl, ⟨rfl, rfl⟩, hx⟩
  exact ⟨rfl, hx.os, hx.tape, hx.output, hx.size, fun k hk => hx.frame k hk (by simp)⟩
theorem heap_pos {W : World} {v : Value} (h : W.cell? ⟨0, 0, none⟩ = some v) : 0 < W.heap.size := by
  rcases Nat.eq_zero_or_pos W.heap.size with h0 | h'
  · simp [World.cell?, h0] at h
  · exact h'
theorem block_lt {W : World} {a : Addr} {v : Value} (h : W.cell? a = some v) : a.block < W.heap.size := by
  rcases Nat.lt_or_ge a.block W.heap.size with h' | h'
  · exact h'
  · simp [World.cell?, Array.getElem?_eq_none h'] at h

theorem trodAll_below {H : Type} {enc : TypeId × Value → H} {P : Program} (hl : laidOutB P = true) {W W' : World} (hb : Below W.heap.size W W') : ∀ (ts : List TypeId) (vs : List Value) (ds : List (DataW H)) (ps : List MemPlace),
    (∀ t ∈ ts, P.readableRec t = true ∧ t < P.types.size) → DataW.TrodAll enc P W 0 (fun _ => true) true ts vs ds ps → (∀ x ∈ ps, x.block < W.heap.size) → DataW.TrodAll enc P W' 0 (fun b => decide (b < W.heap.size)) true ts vs ds ps
  | [], [], [], ps, _, h, _ => h
  | t :: ts, v :: vs, d :: ds, ps, hr, h, hlt => by
    obtain ⟨p, q, h1, h2, rfl⟩ := h
    exact ⟨p, q, hb.trod hl (hr t (by simp)).1 (hr t (by simp)).2 h1 (fun x hx => hlt x (by simp [hx])), trodAll_below hl hb ts vs ds q (fun t' ht => hr t' (by simp [ht])) h2 (fun x hx => hlt x (by simp [hx])), rfl⟩
  | [], [], _ :: _, _, _, h, _ => h.elim
  | [], _ :: _, _, _, _, h, _ => h.elim
  | _ :: _, [], _, _, _, h, _ => h.elim
  | _ :: _, _ :: _, [], _, _, h, _ => h.elim
theorem post_true {H : Type} {enc : TypeId × Value → H} {f : Func} {s : ChangeSpec} {W W' : World} {args : Array Value} {ds gs : List (DataW H)} {before : List MemPlace} (hW : DataW.Whole enc Tryd.prog f.params.toList s.vars false W args.toList ds gs before) (hv : s.vars = []) (hr : f.resultTypes.toList = [4])
    (hp : ∀ t ∈ f.params.toList, Tryd.prog.readableRec t = true ∧ t < Tryd.prog.types.size) (hfn : s.fn H (ds ++ gs) = { results := [.lit (.bool true)], args := ds }) (hb : Below W.heap.size W W') : s.post enc Tryd.prog f false true false false W args (.bool true) W' := by
  have hlt := hW.lt
  obtain ⟨p, q, hA, hV, rfl, hfz, hnd⟩ := hW
  have hz : f.resultTypes.size = 1 := by rw [← Array.length_toList, hr]; rfl
  refine ⟨ds, gs, p ++ q, [], p, [], ⟨p, q, hA, hV, rfl, hfz, hnd⟩, ?_, ?_, ?_, hb.frame _, fun h => by cases h⟩
  · rw [hfn, hr, hz]; exact trodAll_mk1 (shut_bool Tryd.underlying4 true)
  · rw [hfn]; exact trodAll_below laidOut hb _ _ _ _ hp hA (fun x hx => by simpa using hlt x (by simp [hx]))
  · rw [hfn, hv]; exact rfl
end Go.Proofs.YtpnhonhjheahhaaDoor

namespace Go.Proofs.YtpnhonhjheahhaaDoor
open Go.ChangeShapes Go.WideShapes Go.RowKit Go.Deep

theorem list_of {α : Type} {f : α → Value} {p : α → Prop} : ∀ (vs : List Value), (∀ u ∈ vs, ∃ x, u = f x ∧ p x) → ∃ xs : List α, vs = xs.map f ∧ ∀ x ∈ xs, p x
  | [], _ => ⟨[], rfl, fun _ h => by cases h⟩
  | v :: vs, h => by
    obtain ⟨x, rfl, hp⟩ := h v (by simp)
    obtain ⟨xs, rfl, hps⟩ := list_of vs (fun u hu => h u (by simp [hu]))
    exact ⟨x :: xs, rfl, fun y hy => by
      rcases List.mem_cons.1 hy with rfl | hy
      · exact hp
      · exact hps y hy⟩

section
variable {H : Type} {enc : TypeId × Value → H} {P : Program} {W : World}
theorem open_src {r : Reach} {b0 : Nat} {t e : TypeId} {v : Value} {d : DataW H} {ps : List MemPlace} (ht : P.underlying t = some (.slice e)) (hc : P.cellsOf e = 1) (hv : Value.okWide P W r b0 t v) (h : DataW.Trod enc P W 0 (fun _ => true) true t v d ps) :
    ∃ A cp vs, v = .slice A vs.length cp ∧ vs.length ≤ cp ∧ cp ≤ maxLen ∧ Src W W.heap.size [] A vs ∧ (A = none → vs.length = 0) ∧ ∀ u ∈ vs, ∃ n x, DataW.trod enc P W 0 (fun _ => true) true n e [u] = some x := by
  obtain ⟨a, l, c, rfl⟩ := okWide_slice ht hv
  obtain ⟨fuel, hf⟩ := h
  rcases open_slice1 ht hc hf with ⟨h0, _⟩ | ⟨a', len, cap, m, n, V, D, Pl, h1, hb, hl, hm, hmm, hx, hcell⟩
  · simp [Value.cells] at h0
    obtain ⟨rfl, rfl, rfl⟩ := h0
    exact ⟨none, 0, [], rfl, Nat.le_refl _, by simp [maxLen], Src.nil, fun _ => rfl, fun _ hu => by cases hu⟩
  · simp [Value.cells] at h1
    obtain ⟨rfl, rfl, rfl⟩ := h1
    simp only [if_true] at hmm
    subst hmm
    refine ⟨some a', m, (List.range l).map V, by simp, by simpa using hl, hm, ?_, fun h => (by cases h), ?_⟩
    · rcases Nat.eq_zero_or_pos l with rfl | hpos
      · exact .inl rfl
      · refine .inr ⟨a', rfl, .inl ⟨?_, fun j u hj => ?_⟩⟩
        · have := block_lt (hcell 0 (by omega)).1
          rwa [block_of_add] at this
        · have hjl : j < l := by
            have := (List.getElem?_eq_some_iff.1 hj).1
            simpa using this
          simp [hjl] at hj
          subst hj
          exact (hcell j (by omega)).1
    · intro u hu
      obtain ⟨j, hj, rfl⟩ := List.mem_map.1 hu
      have := List.mem_range.1 hj
      exact ⟨n, _, (hcell j (by omega)).2⟩

theorem open_bools' {r : Reach} {b0 : Nat} {t e : TypeId} {v : Value} {d : DataW H} {ps : List MemPlace} (ht : P.underlying t = some (.slice e)) (he : P.underlying e = some .bool) (hc : P.cellsOf e = 1) (hv : Value.okWide P W r b0 t v) (h : DataW.Trod enc P W 0 (fun _ => true) true t v d ps) :
    ∃ A cp, ∃ keep : List Bool, v = .slice A keep.length cp ∧ keep.length ≤ cp ∧ cp ≤ maxLen ∧ Src W W.heap.size [] A (keep.map .bool) ∧ (A = none → keep.length = 0) := by
  obtain ⟨A, cp, vs, rfl, hl, hm, hs, hA, hel⟩ := open_src ht hc hv h
  obtain ⟨xs, rfl, _⟩ := list_of (f := Value.bool) (p := fun _ => True) vs (fun u hu => by
    obtain ⟨n, x, hx⟩ := hel u hu
    obtain ⟨b, h1, _⟩ := DataW.trod_bool he hx
    exact ⟨b, by simpa using h1, trivial⟩)
  exact ⟨A, cp, xs, by simp, by simpa using hl, hm, hs, by simpa using hA⟩
theorem open_ints' {r : Reach} {b0 : Nat} {t e : TypeId} {k : IntKind} {v : Value} {d : DataW H} {ps : List MemPlace} (ht : P.underlying t = some (.slice e)) (he : P.underlying e = some (.int k)) (hc : P.cellsOf e = 1) (hv : Value.okWide P W r b0 t v) (h : DataW.Trod enc P W 0 (fun _ => true) true t v d ps) :
    ∃ A cp, ∃ ns : List Int, v = .slice A ns.length cp ∧ ns.length ≤ cp ∧ cp ≤ maxLen ∧ Src W W.heap.size [] A (ns.map (.int k)) ∧ (A = none → ns.length = 0) ∧ ∀ n ∈ ns, (Lit.int k n).wf = true := by
  obtain ⟨A, cp, vs, rfl, hl, hm, hs, hA, hel⟩ := open_src ht hc hv h
  obtain ⟨xs, rfl, hp⟩ := list_of (f := Value.int k) (p := fun n => (Lit.int k n).wf = true) vs (fun u hu => by
    obtain ⟨n, x, hx⟩ := hel u hu
    obtain ⟨b, h1, _, hw⟩ := DataW.trod_int he hx
    exact ⟨b, by simpa using h1, hw⟩)
  exact ⟨A, cp, xs, by simp, by simpa using hl, hm, hs, by simpa using hA, hp⟩
theorem open_strs' {r : Reach} {b0 : Nat} {t e : TypeId} {v : Value} {d : DataW H} {ps : List MemPlace} (ht : P.underlying t = some (.slice e)) (he : P.underlying e = some .string) (hc : P.cellsOf e = 1) (hv : Value.okWide P W r b0 t v) (h : DataW.Trod enc P W 0 (fun _ => true) true t v d ps) :
    ∃ A cp, ∃ ss : List (List UInt8), v = .slice A ss.length cp ∧ ss.length ≤ cp ∧ cp ≤ maxLen ∧ Src W W.heap.size [] A (ss.map strV) ∧ (A = none → ss.length = 0) ∧ ∀ s ∈ ss, s.length ≤ maxLen := by
  obtain ⟨A, cp, vs, rfl, hl, hm, hs, hA, hel⟩ := open_src ht hc hv h
  obtain ⟨xs, rfl, hp⟩ := list_of (f := strV) (p := fun s => s.length ≤ maxLen) vs (fun u hu => by
    obtain ⟨n, x, hx⟩ := hel u hu
    obtain ⟨s, h1, _, hw⟩ := DataW.trod_string he hx
    exact ⟨s.data.toList, by have h2 : u = .string s := (by simpa using h1); rw [h2]; rfl, by rw [Array.length_toList]; exact hw⟩)
  exact ⟨A, cp, xs, by simp, by simpa using hl, hm, hs, by simpa using hA, hp⟩
end
theorem wf_i64 {n : Int} (h : (Lit.int .i64 n).wf = true) : I64 n := bounds_i64 h
theorem wf_u8 {n : Int} (h : (Lit.int .u8 n).wf = true) : ∃ x : UInt8, n = (x.toNat : Int) := by
  have h1 : IntKind.u8.min = 0 := by decide
  have h2 : IntKind.u8.max = 255 := by decide
  simp only [Lit.wf, h1, h2, Bool.and_eq_true, decide_eq_true_eq] at h
  refine ⟨UInt8.ofNat n.toNat, ?_⟩
  rw [UInt8.toNat_ofNat']
  omega
theorem wf_bytes : ∀ {ns : List Int}, (∀ n ∈ ns, (Lit.int .u8 n).wf = true) → ∃ bs : List UInt8, ns.map (Value.int .u8) = bs.map u8v ∧ ns.length = bs.length
  | [], _ => ⟨[], rfl, rfl⟩
  | n :: ns, h => by
    obtain ⟨x, hx⟩ := wf_u8 (h n (by simp))
    obtain ⟨bs, hb, hl⟩ := wf_bytes (ns := ns) (fun m hm => h m (by simp [hm]))
    exact ⟨x :: bs, by simp [hb, hx, u8v], by simp [hl]⟩
end Go.Proofs.YtpnhonhjheahhaaDoor
