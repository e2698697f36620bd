/-
  MAPS of keys that are owned, and the loop over one: made, set, gone through in whatever order. No program is named here.
-/
import Derived.Test.YtpnhonhjheahhaaDoorMapX
import Derived.Laws.IdiomRangeMap
namespace Go.Proofs.YtpnhonhjheahhaaDoor
open Go.RowKit Go.MapKept
/-- A map all of whose keys are such numbers. -/
def OwnK (v : Value) (S : Int → Prop) (ch : List Row) : Prop :=
  ∃ b es clock, v = .map (some b) ∧ ch = [⟨b, .map es clock⟩] ∧ Stamped es clock ∧ ∀ x ∈ es.toList, ∃ k, S k ∧ x.key = i64k k
theorem OwnK.mono {v : Value} {S T : Int → Prop} {ch : List Row} (o : OwnK v S ch) (h : ∀ k, S k → T k) : OwnK v T ch := by
  obtain ⟨b, es, clock, h1, h2, h3, h4⟩ := o
  exact ⟨b, es, clock, h1, h2, h3, fun x hx => by obtain ⟨k, hk, h5⟩ := h4 x hx; exact ⟨k, h k hk, h5⟩⟩
section
variable {P : Program} {n : Nat} {c : Ctx} {Q : Exit → Act → World → Prop} {e : Env} {h : Heap} {ops : Array Oper} {rest : List Oper} {d ty : Nat} {pos : String} {af : Array Edge}
theorem stamped_none : Stamped #[] 0 := ⟨fun x hx => by simp at hx, by simp, by simp⟩
theorem LW.makeMapK {t : Nat} (S : Int → Prop) (hd : Nat.blt d n = true) (k : ∀ v ch, OwnK v S ch → LW P n c ops Q rest ((d, v) :: e) (ch :: h)) :
    LW P n c ops Q (⟨some d, .makeMap t none, ty, pos, af, none⟩ :: rest) e h :=
  LW.act hd fun a w hf s => ⟨.map (some w.heap.size), [⟨w.heap.size, .map #[] 0⟩] :: h, w.alloc (.map #[] 0), by simp [execOp, run_makeMap], s.alloc _, k _ _ ⟨w.heap.size, #[], 0, rfl, rfl, stamped_none, fun x hx => by simp at hx⟩⟩
theorem LW.mapSetK {t kt et : Nat} {x y z : Operand} {v u : Value} {S : Int → Prop} {ch : List Row} {h' : Heap} {k : Int} (hx : e.ev x = some v) (hy : e.ev y = some (.int .i64 k)) (hz : e.ev z = some u) (o : OwnK v S ch) (hk : S k) (tk : Take ch h h')
    (ht : P.underlying t = some (.map kt et)) (hkt : P.underlying kt = some (.int .i64))
    (kk : ∀ ch', OwnK v S ch' → LW P n c ops Q rest e (ch' :: h')) : LW P n c ops Q (⟨none, .mapUpdate t x y z, ty, pos, af, none⟩ :: rest) e h :=
  LW.skipAct (.inl rfl) fun a w hf s => by
    obtain ⟨b, es, clock, rfl, rfl, hst, hes⟩ := o
    have hb := s.row tk
    have hck : ∀ em, (Instr.checkKey em 10000 kt (i64k k)).run P w = .ok () w := fun em => run_checkKey hkt (show IsKey (.int .i64) (i64k k) from rfl) em 9999
    have hks0 : ∀ x ∈ es.toList, IsKey (.int .i64) x.key := fun x hx => by
      obtain ⟨k', _, h1⟩ := hes x hx
      rw [h1]; rfl
    rcases findNow_spec (show IsKey (.int .i64) (i64k k) from rfl) es.toList 0 hks0 with ⟨hfn, h2⟩ | ⟨j, e1, hfn, h2, h3⟩
    · have hfk := run_findKey (P := P) (w := w) hkt hfn
      refine ⟨_, _, ?_, s.setMap (o' := .map (es.push { key := i64k k, val := u, born := clock }) (clock + 1)) tk hb, kk _ ⟨b, _, _, rfl, rfl, stamped_push hst (fun x hx => h2 x hx), ?_⟩⟩
      · simp only [i64k] at hck hfk
        simp only [execOp, hf.eval hx, hf.eval hy, hf.eval hz, Instr.mapUpdate, Sem.run_bind, run_underlying ht, Result.andThen_ok, run_getObj_map w _ _ _ hb, hck, hfk, run_setObj_map _ hb]
        rfl
      · intro x hx
        rw [Array.toList_push] at hx
        rcases List.mem_append.1 hx with hx | hx
        · exact hes x hx
        · simp at hx; subst hx; exact ⟨k, hk, rfl⟩
    · have hfk := run_findKey (P := P) (w := w) hkt hfn
      rw [Nat.zero_add] at hfk
      have hjk : es[j]?.map (·.key) = some (i64k k) := by
        rw [Array.getElem?_toList] at h2
        rw [h2, Option.map_some, h3]
      refine ⟨_, _, ?_, s.setMap (o' := .map (es.modify j fun x => { x with key := i64k k, val := u }) clock) tk hb, kk _ ⟨b, _, _, rfl, rfl, stamped_modify hst j _ (fun _ _ => rfl) (fun e2 _ h5 => by rw [h5] at hjk; simpa using hjk.symm), ?_⟩⟩
      · have hks := run_keyThatStays (P := P) (w := w) (d := .int .i64) (show IsKey (.int .i64) (i64k k) from rfl)
        simp only [i64k] at hck hfk hks hjk
        simp only [execOp, hf.eval hx, hf.eval hy, hf.eval hz, Instr.mapUpdate, Sem.run_bind, run_underlying ht, Result.andThen_ok, run_getObj_map w _ _ _ hb, hck, hfk, hjk, Option.getD_some, hks, run_setObj_map _ hb]
        rfl
      · intro x hx
        obtain ⟨i, hi⟩ := List.mem_iff_getElem?.1 hx
        rw [Array.getElem?_toList, Array.getElem?_modify] at hi
        by_cases hij : j = i
        · rw [if_pos hij] at hi
          obtain ⟨y, hy1, rfl⟩ := Option.map_eq_some_iff.1 hi
          exact ⟨k, hk, rfl⟩
        · rw [if_neg hij] at hi
          exact hes x (List.mem_iff_getElem?.2 ⟨i, by rw [Array.getElem?_toList]; exact hi⟩)
theorem LW.rangeM {t kt et b : Nat} {x : Operand} {es : Array MapEntry} {clock : Nat} {h' : Heap} (hx : e.ev x = some (.map (some b))) (tk : Take [⟨b, .map es clock⟩] h h') (ht : P.underlying t = some (.map kt et)) (hd : Nat.blt d n = true)
    (k : ∀ r, LW P n c ops Q rest ((d, .pointer (some ⟨r, 0, none⟩)) :: e) ([⟨r, .mapIter (some b) clock #[] clock⟩] :: h)) : LW P n c ops Q (⟨some d, .range t x, ty, pos, af, none⟩ :: rest) e h :=
  LW.act hd fun a w hf s => ⟨.pointer (some ⟨w.heap.size, 0, none⟩), [⟨w.heap.size, .mapIter (some b) clock #[] clock⟩] :: h, w.alloc (.mapIter (some b) clock #[] clock), by
    have hr := run_range_map (P := P) w t kt et b es clock ht (s.row tk)
    simp only [execOp, hf.eval hx, Sem.run_bind, hr, Result.andThen_ok]
    rfl, s.alloc _, k _⟩
theorem run_next_at (w : World) (ty : TypeId) (r bm since c0 : Nat) (seen : Array Nat) (es : Array MapEntry) (clock : Nat) (hr : w.heap[r]? = some (.mapIter (some bm) since seen c0)) (hb : w.heap[bm]? = some (.map es clock)) (hold : ∀ x ∈ es.toList, x.born < since) (hsc : since ≤ c0) :
    ((leftOf es seen).size = 0 ∧ (Instr.next (.pointer (some ⟨r, 0, none⟩)) false ty).run P w = .ok (.tuple #[.bool false]) w) ∨
    ∃ e ∈ (leftOf es seen).toList, ∃ w1 : World, (w1 = w ∨ w1 = w.drew) ∧ (Instr.next (.pointer (some ⟨r, 0, none⟩)) false ty).run P w = .ok (.tuple #[.bool true, e.key, e.val]) { w1 with heap := w1.heap.setIfInBounds r (.mapIter (some bm) since (seen.push e.born) clock) } := by
  simp only [Instr.next, getObj, Sem.run_bind, Sem.run, hr, hb, Result.andThen, next_test_false seen es since c0 hold hsc, Bool.false_eq_true, if_false]
  unfold leftOf
  have hmem : ∀ x ∈ (Array.filter (fun e => !seen.contains e.born) es).toList, x.born < since := fun x hx => hold x (by simp at hx ⊢; exact hx.1)
  generalize Array.filter (fun e => !seen.contains e.born) es = L at hmem ⊢
  have e1 : L.filter (fun x => decide (x.born < since)) = L := Array.filter_eq_self.2 (fun x hx => by simpa using hmem x (by simpa using hx))
  have e2 : L.filter (fun x => decide (x.born ≥ since)) = #[] := by
    rw [Array.filter_eq_empty_iff]
    intro x hx
    have := hmem x (by simpa using hx)
    simp
    omega
  simp only [e1, e2, Array.append_empty]
  by_cases h0 : L.size = 0
  · left
    have : L = #[] := Array.eq_empty_of_size_eq_zero h0
    subst this
    refine ⟨rfl, ?_⟩
    simp [choose, Sem.run, Question.forced]
  · right
    have hne : L.isEmpty = false := by simp [Array.isEmpty, h0]
    simp only [hne, Bool.false_eq_true, if_false, Array.empty_append, Array.size_map]
    have hch : ∃ (j : Nat) (w1 : World), j < L.size ∧ (w1 = w ∨ w1 = w.drew) ∧ (choose (Question.mapNext L.size)).run P w = .ok j w1 := by
      by_cases hf : L.size ≤ 1
      · exact ⟨0, w, by omega, .inl rfl, by simp [choose, Sem.run, Question.forced, hf]⟩
      · exact ⟨_, w.drew, Nat.mod_lt _ (by omega), .inr rfl, by
          simp only [choose, Sem.run, Question.forced, decide_eq_true_eq, hf, if_false, Question.cut]
          rfl⟩
    obtain ⟨j, w1, hj, hal, hrun⟩ := hch
    refine ⟨L[j], by simp, w1, hal, ?_⟩
    have hr1 : w1.heap[r]? = some (.mapIter (some bm) since seen c0) := by rcases hal with rfl | rfl <;> exact hr
    have hset : ∀ o' : Obj, (setObj r o').run P w1 = .ok () { w1 with heap := w1.heap.setIfInBounds r o' } := fun o' => by
      simp only [setObj, Sem.run, hr1]
    simp only [hrun, Array.getElem?_map, Array.getElem?_eq_getElem hj, Option.map_some, Sem.run_bind, hset, Result.andThen]
    rfl
theorem LW.nextM {r bm since c0 clock : Nat} {seen : Array Nat} {es : Array MapEntry} {it : Operand} {h1 h2 : Heap} (hx : e.ev it = some (.pointer (some ⟨r, 0, none⟩))) (tk1 : Take [⟨bm, .map es clock⟩] h h1) (tk2 : Take [⟨r, .mapIter (some bm) since seen c0⟩] h h2)
    (hold : ∀ x ∈ es.toList, x.born < since) (hsc : since ≤ c0) (hd : Nat.blt d n = true)
    (k : ∀ v h', ((leftOf es seen).size = 0 ∧ v = .tuple #[.bool false] ∧ h' = h) ∨ (∃ x ∈ (leftOf es seen).toList, v = .tuple #[.bool true, x.key, x.val] ∧ h' = [⟨r, .mapIter (some bm) since (seen.push x.born) clock⟩] :: h2) → LW P n c ops Q rest ((d, v) :: e) h') :
    LW P n c ops Q (⟨some d, .next it false, ty, pos, af, none⟩ :: rest) e h :=
  LW.act hd fun a w hf s => by
    rcases run_next_at (P := P) w ty r bm since c0 seen es clock (s.row tk2) (s.row tk1) hold hsc with ⟨h0, hr⟩ | ⟨x, hx1, w1, hw1, hr⟩
    · exact ⟨_, h, w, by simp only [execOp, hf.eval hx, Sem.run_bind, hr, Result.andThen_ok]; rfl, s, k _ _ (.inl ⟨h0, rfl, rfl⟩)⟩
    · have s1 : St c h w1 := by
        rcases hw1 with rfl | rfl
        · exact s
        · exact s.drew
      exact ⟨_, _, _, by simp only [execOp, hf.eval hx, Sem.run_bind, hr, Result.andThen_ok]; rfl, s1.setMap tk2 (s1.row tk2), k _ _ (.inr ⟨x, hx1, rfl, rfl⟩)⟩
theorem run_entry_at (w : World) (r bm since : Nat) (seen : Array Nat) (es : Array MapEntry) (clock : Nat) (e : MapEntry) (hr : w.heap[r]? = some (.mapIter (some bm) since (seen.push e.born) clock)) (hb : w.heap[bm]? = some (.map es clock)) (he : e ∈ es.toList) (hn : (es.toList.map (·.born)).Nodup) :
    (Instr.entry (.pointer (some ⟨r, 0, none⟩))).run P w = .ok (.tuple #[e.key, e.val]) w := by
  have hf : es.find? (·.born == e.born) = some e := by rw [← Array.find?_toList]; exact find_born e es.toList hn he
  simp only [Instr.entry, getObj, Sem.run_bind, Sem.run, hr, hb, Result.andThen, Array.back?_push, bne_self_eq_false, Bool.false_eq_true, if_false, hf]
  rfl
theorem LW.entryM {r bm since clock : Nat} {seen : Array Nat} {es : Array MapEntry} {x : MapEntry} {it : Operand} {h1 h2 : Heap} (hx : e.ev it = some (.pointer (some ⟨r, 0, none⟩))) (tk1 : Take [⟨bm, .map es clock⟩] h h1) (tk2 : Take [⟨r, .mapIter (some bm) since (seen.push x.born) clock⟩] h h2)
    (he : x ∈ es.toList) (hn : (es.toList.map (·.born)).Nodup) (hd : Nat.blt d n = true) (k : LW P n c ops Q rest ((d, .tuple #[x.key, x.val]) :: e) h) :
    LW P n c ops Q (⟨some d, .entry it, ty, pos, af, none⟩ :: rest) e h :=
  LW.val _ hd (fun a w hf s => by
    have hr := run_entry_at (P := P) w r bm since seen es clock x (s.row tk2) (s.row tk1) he hn
    simp only [execOp, hf.eval hx, Sem.run_bind, hr, Result.andThen_ok]
    rfl) k
theorem left_size (es : Array MapEntry) (seen : Array Nat) : (leftOf es seen).size = (es.toList.filter (fun y => !seen.contains y.born)).length := by
  unfold leftOf
  rw [← Array.length_toList, Array.toList_filter]
theorem left_less {es : Array MapEntry} {seen : Array Nat} {x : MapEntry} (hx : x ∈ (leftOf es seen).toList) : (leftOf es (seen.push x.born)).size < (leftOf es seen).size := by
  rw [left_size, left_size]
  unfold leftOf at hx
  rw [Array.toList_filter] at hx
  obtain ⟨h1, h2⟩ := List.mem_filter.1 hx
  exact filter_lt (fun y : MapEntry => !seen.contains y.born) (fun y => !(seen.push x.born).contains y.born) (fun y hy => by simp at hy ⊢; exact hy.1) x h2 (by simp) _ h1
theorem left_mem {es : Array MapEntry} {seen : Array Nat} {x : MapEntry} (hx : x ∈ (leftOf es seen).toList) : x ∈ es.toList := by
  unfold leftOf at hx
  rw [Array.toList_filter] at hx
  exact (List.mem_filter.1 hx).1
end
end Go.Proofs.YtpnhonhjheahhaaDoor
