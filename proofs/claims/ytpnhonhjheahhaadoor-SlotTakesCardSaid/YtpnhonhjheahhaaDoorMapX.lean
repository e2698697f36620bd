/-
  MAPS from numbers to numbers that are owned: made, set, asked, measured. No program is named here.
-/
import Derived.Test.YtpnhonhjheahhaaDoorStr
import Derived.MapKept
import Derived.Carry
namespace Go.Proofs.YtpnhonhjheahhaaDoor
open Go.RowKit Go.MapKept

def i64k (k : Int) : Value := .int .i64 k
theorem i64k_inj {a b : Int} (h : i64k a = i64k b) : a = b := by simpa [i64k] using h
/-- The map of these keys, in the order they came, and of these values. -/
def OwnM (kv : IntKind) (v : Value) (ks : List Int) (f : Int → Int) (ch : List Row) : Prop :=
  ∃ b es clock, v = .map (some b) ∧ ch = [⟨b, .map es clock⟩] ∧ es.toList.map (fun x => (x.key, x.val)) = ks.map (fun k => (i64k k, Value.int kv (f k))) ∧ ks.Nodup
theorem OwnM.one {kv : IntKind} {v : Value} {ks : List Int} {f : Int → Int} {ch : List Row} (o : OwnM kv v ks f ch) : v.oneCell' = true := by
  obtain ⟨b, es, clock, rfl, _⟩ := o
  rfl
theorem keys_of {kv : IntKind} {es : Array MapEntry} {ks : List Int} {f : Int → Int} (he : es.toList.map (fun x => (x.key, x.val)) = ks.map (fun k => (i64k k, Value.int kv (f k)))) : ∀ x ∈ es.toList, ∃ k ∈ ks, x.key = i64k k ∧ x.val = .int kv (f k) := by
  intro x hx
  have h1 : (x.key, x.val) ∈ ks.map (fun k => (i64k k, Value.int kv (f k))) := by rw [← he]; exact List.mem_map.2 ⟨x, hx, rfl⟩
  obtain ⟨k, hk, h2⟩ := List.mem_map.1 h1
  simp only [Prod.mk.injEq] at h2
  exact ⟨k, hk, h2.1.symm, h2.2.symm⟩
theorem find_of {kv : IntKind} {es : Array MapEntry} {ks : List Int} {f : Int → Int} (he : es.toList.map (fun x => (x.key, x.val)) = ks.map (fun k => (i64k k, Value.int kv (f k)))) (k : Int) :
    (k ∉ ks ∧ Instr.findNow (.int .i64) (i64k k) es.toList 0 = some none) ∨ (∃ j : Nat, ks[j]? = some k ∧ Instr.findNow (.int .i64) (i64k k) es.toList 0 = some (some (j, .int kv (f k)))) := by
  have hk : IsKey (.int .i64) (i64k k) := rfl
  have hks : ∀ x ∈ es.toList, IsKey (.int .i64) x.key := fun x hx => by
    obtain ⟨k', _, h1, _⟩ := keys_of he x hx
    rw [h1]; rfl
  rcases findNow_spec hk es.toList 0 hks with ⟨h1, h2⟩ | ⟨j, e, h1, h2, h3⟩
  · refine .inl ⟨fun hm => ?_, h1⟩
    have hmem : (i64k k, Value.int kv (f k)) ∈ es.toList.map (fun x => (x.key, x.val)) := by rw [he]; exact List.mem_map.2 ⟨k, hm, rfl⟩
    obtain ⟨x, hx, hxe⟩ := List.mem_map.1 hmem
    simp only [Prod.mk.injEq] at hxe
    exact h2 x hx hxe.1
  · right
    have hj : (es.toList.map (fun x => (x.key, x.val)))[j]? = some (e.key, e.val) := by simp [h2]
    rw [he, List.getElem?_map] at hj
    obtain ⟨k', hk', hke⟩ := Option.map_eq_some_iff.1 hj
    simp only [Prod.mk.injEq] at hke
    have : k' = k := i64k_inj (hke.1.trans h3)
    subst this
    exact ⟨j, hk', by rw [h1, Nat.zero_add, ← hke.2]⟩

section
variable {P : Program} {n : Nat} {c : Ctx} {Q : Exit → Act → World → Prop} {e : Env} {h : Heap} {ops : Array Oper} {rest : List Oper} {d ty : Nat} {pos : String} {af : Array Edge}
theorem LW.makeMap {t : Nat} (kv : IntKind) (f : Int → Int) (hd : Nat.blt d n = true) (k : ∀ v ch, OwnM kv v [] f ch → LW P n c ops Q rest ((d, v) :: e) (ch :: h)) :
    LW P n c ops Q (⟨some d, .makeMap t none, ty, pos, af, none⟩ :: rest) e h :=
  LW.act hd fun a w hf s => ⟨.map (some w.heap.size), [⟨w.heap.size, .map #[] 0⟩] :: h, w.alloc (.map #[] 0), by simp [execOp, run_makeMap], s.alloc _, k _ _ ⟨w.heap.size, #[], 0, rfl, rfl, rfl, List.nodup_nil⟩⟩
theorem LW.mapLen {t kt et : Nat} {x : Operand} {kv : IntKind} {v : Value} {ks : List Int} {f : Int → Int} {ch : List Row} {h' : Heap} (hx : e.ev x = some v) (o : OwnM kv v ks f ch) (tk : Take ch h h') (ht : P.underlying t = some (.map kt et)) (hd : Nat.blt d n = true)
    (k : LW P n c ops Q rest ((d, .int .i64 (ks.length : Int)) :: e) h) : LW P n c ops Q (⟨some d, .call { callee := .builtin .len, args := #[x], argTypes := #[t] }, ty, pos, af, none⟩ :: rest) e h :=
  LW.val _ hd (fun a w hf s => by
    obtain ⟨b, es, clock, rfl, rfl, he, _⟩ := o
    have hb := s.row tk
    have hl : es.size = ks.length := by have := congrArg List.length he; simpa using this
    simp [execOp, resolve, invoke, builtin, hf.eval hx, Builtin.len_, run_underlying ht, run_getObj_map w _ _ _ hb, goInt, hl]) k
theorem run_lookup_own {w : World} {t kt et : Nat} {kv : IntKind} {b : Nat} {es : Array MapEntry} {clock : Nat} {ks : List Int} {f : Int → Int} (k : Int) (ok : Bool) (hb : w.heap[b]? = some (.map es clock)) (he : es.toList.map (fun x => (x.key, x.val)) = ks.map (fun k => (i64k k, Value.int kv (f k))))
    (ht : P.underlying t = some (.map kt et)) (hkt : P.underlying kt = some (.int .i64)) (hz : (P.info? et).bind (·.zero) = some (.int kv 0)) :
    (Instr.lookup t (.map (some b)) (i64k k) ok).run P w = .ok (if ok then .tuple #[.int kv (if k ∈ ks then f k else 0), .bool (decide (k ∈ ks))] else .int kv (if k ∈ ks then f k else 0)) w := by
  obtain ⟨i, hi, hz'⟩ := Option.bind_eq_some_iff.1 hz
  have hck : ∀ em, (Instr.checkKey em 10000 kt (i64k k)).run P w = .ok () w := fun em => run_checkKey hkt (show IsKey (.int .i64) (i64k k) from rfl) em 9999
  rcases find_of he k with ⟨hn, hf⟩ | ⟨j, hj, hf⟩
  · have hfk := run_findKey (w := w) hkt hf
    simp only [Instr.lookup, Sem.run_bind, run_underlying ht, Result.andThen_ok, run_getObj_map w _ _ _ hb, Sem.run_pure, hck, hfk, zeroValue, typeInfo, run_program, hi, hz', if_neg hn, decide_eq_false hn]
  · have hm : k ∈ ks := List.mem_of_getElem? hj
    have hfk := run_findKey (w := w) hkt hf
    simp only [Instr.lookup, Sem.run_bind, run_underlying ht, Result.andThen_ok, run_getObj_map w _ _ _ hb, Sem.run_pure, hck, hfk, if_pos hm, decide_eq_true hm]
theorem LW.mapGet {t kt et : Nat} {x y : Operand} {kv : IntKind} {v : Value} {ks : List Int} {f : Int → Int} {ch : List Row} {h' : Heap} {k : Int} (ok : Bool) (hx : e.ev x = some v) (hy : e.ev y = some (.int .i64 k)) (o : OwnM kv v ks f ch) (tk : Take ch h h')
    (ht : P.underlying t = some (.map kt et)) (hkt : P.underlying kt = some (.int .i64)) (hz : (P.info? et).bind (·.zero) = some (.int kv 0)) (hd : Nat.blt d n = true)
    (kk : LW P n c ops Q rest ((d, if ok then .tuple #[.int kv (if k ∈ ks then f k else 0), .bool (decide (k ∈ ks))] else .int kv (if k ∈ ks then f k else 0)) :: e) h) :
    LW P n c ops Q (⟨some d, .lookup t x y ok, ty, pos, af, none⟩ :: rest) e h :=
  LW.val _ hd (fun a w hf s => by
    obtain ⟨b, es, clock, rfl, rfl, he, _⟩ := o
    have hr := run_lookup_own (P := P) (w := w) k ok (s.row tk) he ht hkt hz
    simp only [i64k] at hr
    simp only [execOp, hf.eval hx, hf.eval hy, Sem.run_bind, hr, Result.andThen_ok]
    rfl) kk
theorem LW.mapGet1 {t kt et : Nat} {x y : Operand} {kv : IntKind} {v : Value} {ks : List Int} {f : Int → Int} {ch : List Row} {h' : Heap} {k : Int} (r : Int) (hx : e.ev x = some v) (hy : e.ev y = some (.int .i64 k)) (o : OwnM kv v ks f ch) (tk : Take ch h h')
    (ht : P.underlying t = some (.map kt et)) (hkt : P.underlying kt = some (.int .i64)) (hz : (P.info? et).bind (·.zero) = some (.int kv 0)) (hr : (if k ∈ ks then f k else 0) = r) (hd : Nat.blt d n = true) (kk : LW P n c ops Q rest ((d, .int kv r) :: e) h) :
    LW P n c ops Q (⟨some d, .lookup t x y false, ty, pos, af, none⟩ :: rest) e h := LW.mapGet false hx hy o tk ht hkt hz hd (by rw [hr]; exact kk)
theorem LW.mapGet2 {t kt et : Nat} {x y : Operand} {kv : IntKind} {v : Value} {ks : List Int} {f : Int → Int} {ch : List Row} {h' : Heap} {k : Int} (r : Int) (q : Bool) (hx : e.ev x = some v) (hy : e.ev y = some (.int .i64 k)) (o : OwnM kv v ks f ch) (tk : Take ch h h')
    (ht : P.underlying t = some (.map kt et)) (hkt : P.underlying kt = some (.int .i64)) (hz : (P.info? et).bind (·.zero) = some (.int kv 0)) (hr : (if k ∈ ks then f k else 0) = r) (hq : decide (k ∈ ks) = q) (hd : Nat.blt d n = true) (kk : LW P n c ops Q rest ((d, .tuple #[.int kv r, .bool q]) :: e) h) :
    LW P n c ops Q (⟨some d, .lookup t x y true, ty, pos, af, none⟩ :: rest) e h := LW.mapGet true hx hy o tk ht hkt hz hd (by rw [hr, hq]; exact kk)
theorem St.setMap {w : World} {b : Nat} {o o' : Obj} {h' : Heap} (s : St c h w) (tk : Take [⟨b, o⟩] h h') (hb : w.heap[b]? = some o) : St c ([⟨b, o'⟩] :: h') { w with heap := w.heap.setIfInBounds b o' } :=
  s.set tk rfl rfl rfl (by simp) (heap_set hb).1 (fun k hk => (heap_set (o' := o') hb).2 k hk)
theorem LW.mapSet {t kt et : Nat} {x y z : Operand} {kv : IntKind} {v : Value} {ks : List Int} {f : Int → Int} {ch : List Row} {h' : Heap} {k u : Int} (hx : e.ev x = some v) (hy : e.ev y = some (.int .i64 k)) (hz : e.ev z = some (.int kv u)) (o : OwnM kv v ks f ch) (tk : Take ch h h')
    (ht : P.underlying t = some (.map kt et)) (hkt : P.underlying kt = some (.int .i64))
    (kk : ∀ ch', OwnM kv v (if k ∈ ks then ks else ks ++ [k]) (fun q => if q = k then u else f q) ch' → LW P n c ops Q rest e (ch' :: h')) : LW P n c ops Q (⟨none, .mapUpdate t x y z, ty, pos, af, none⟩ :: rest) e h :=
  LW.skipAct (.inl rfl) fun a w hf s => by
    obtain ⟨b, es, clock, rfl, rfl, he, hnd⟩ := o
    have hb := s.row tk
    have hck : ∀ em, (Instr.checkKey em 10000 kt (i64k k)).run P w = .ok () w := fun em => run_checkKey hkt (show IsKey (.int .i64) (i64k k) from rfl) em 9999
    have hlen : es.toList.length = ks.length := by have := congrArg List.length he; simpa using this
    rcases find_of he k with ⟨hn, hfn⟩ | ⟨j, hj, hfn⟩
    · have hfk := run_findKey (P := P) (w := w) hkt hfn
      refine ⟨_, _, ?_, s.setMap (o' := .map (es.push { key := i64k k, val := .int kv u, born := clock }) (clock + 1)) tk hb, kk _ ⟨b, _, _, rfl, rfl, ?_, ?_⟩⟩
      · simp only [i64k] at hck hfk
        simp only [execOp, hf.eval hx, hf.eval hy, hf.eval hz, Instr.mapUpdate, Sem.run_bind, run_underlying ht, Result.andThen_ok, run_getObj_map w _ _ _ hb, hck, hfk, run_setObj_map _ hb]
        rfl
      · rw [if_neg hn, Array.toList_push, List.map_append, List.map_append, he]
        congr 1
        · refine List.map_congr_left fun q hq => ?_
          have : q ≠ k := fun hqk => hn (hqk ▸ hq)
          simp [this]
        · simp
      · rw [if_neg hn, List.nodup_append]
        refine ⟨hnd, by simp, fun p hp q hq hpq => ?_⟩
        simp at hq
        exact hn (by rw [← hq, ← hpq]; exact hp)
    · have hm : k ∈ ks := List.mem_of_getElem? hj
      have hfk := run_findKey (P := P) (w := w) hkt hfn
      have hjl : j < es.size := by have := (List.getElem?_eq_some_iff.1 hj).1; rw [← hlen] at this; simpa using this
      have hjk : es[j]?.map (·.key) = some (i64k k) := by
        have h1 : (es.toList.map (fun x => (x.key, x.val)))[j]? = some (i64k k, .int kv (f k)) := by rw [he]; simp [hj]
        rw [List.getElem?_map] at h1
        obtain ⟨x, hx1, hx2⟩ := Option.map_eq_some_iff.1 h1
        simp only [Prod.mk.injEq] at hx2
        rw [Array.getElem?_toList] at hx1
        simp [hx1, hx2.1]
      refine ⟨_, _, ?_, s.setMap (o' := .map (es.modify j fun x => { x with key := i64k k, val := .int kv u }) clock) tk hb, kk _ ⟨b, _, _, rfl, rfl, ?_, by rw [if_pos hm]; exact hnd⟩⟩
      · have hks := run_keyThatStays (P := P) (w := w) (d := .int .i64) (show IsKey (.int .i64) (i64k k) from rfl)
        simp only [i64k] at hck hfk hks hjk
        simp only [execOp, hf.eval hx, hf.eval hy, hf.eval hz, Instr.mapUpdate, Sem.run_bind, run_underlying ht, Result.andThen_ok, run_getObj_map w _ _ _ hb, hck, hfk, hjk, Option.getD_some, hks, run_setObj_map _ hb]
        rfl
      · rw [if_pos hm]
        apply List.ext_getElem?
        intro i
        have h1 : (es.toList.map (fun x => (x.key, x.val)))[i]? = (ks.map (fun k => (i64k k, Value.int kv (f k))))[i]? := by rw [he]
        rw [List.getElem?_map, List.getElem?_map, Array.getElem?_toList] at h1
        rw [List.getElem?_map, List.getElem?_map, Array.getElem?_toList, Array.getElem?_modify]
        by_cases hij : j = i
        · subst hij
          rw [if_pos rfl, hj]
          have : es[j]? = some es[j] := by simp [hjl]
          rw [this]
          simp
        · rw [if_neg hij, h1]
          cases hki : ks[i]? with
          | none => rfl
          | some q =>
            have hq : q ≠ k := fun hqk => by
              subst hqk
              have hil := (List.getElem?_eq_some_iff.1 hki)
              have hjl2 := (List.getElem?_eq_some_iff.1 hj)
              have hp := List.pairwise_iff_getElem.1 hnd
              rcases Nat.lt_or_gt_of_ne hij with hlt | hgt
              · exact hp j i hjl2.1 hil.1 hlt (hjl2.2.trans hil.2.symm)
              · exact hp i j hil.1 hjl2.1 hgt (hil.2.trans hjl2.2.symm)
            simp [hq]
end
end Go.Proofs.YtpnhonhjheahhaaDoor
