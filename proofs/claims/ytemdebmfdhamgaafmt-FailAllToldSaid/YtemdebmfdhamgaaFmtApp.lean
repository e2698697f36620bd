/-
  append, onto a slice that is owned; bytes to a string. No program is named here.
-/
import Derived.Test.YtemdebmfdhamgaaFmtMem
import Derived.Laws.Append
namespace Go.Proofs.YtemdebmfdhamgaaFmt
open Go.RowKit

/-- A slice value of m elements of type t, with the row that it owns: nothing, or a row of its own from the head on, with room behind. -/
def OwnS (t : TypeId) (sz : Nat) (v : Value) (m : Nat) (xs : List Value) (ch : List Row) : Prop :=
  (v = .slice none 0 0 ∧ m = 0 ∧ xs = [] ∧ ch = []) ∨
  ∃ b cap slack, v = .slice (some ⟨b, 0, none⟩) m cap ∧ xs.length = m * sz ∧ m ≤ cap ∧ slack.length = (cap - m) * sz ∧ ch = [cr b t (xs ++ slack)]
theorem OwnS.nil {t : TypeId} {sz : Nat} : OwnS t sz (.slice none 0 0) 0 [] [] := .inl ⟨rfl, rfl, rfl, rfl⟩
theorem OwnS.row {t : TypeId} {sz b m : Nat} {xs : List Value} (hl : xs.length = m * sz) : OwnS t sz (.slice (some ⟨b, 0, none⟩) m m) m xs [cr b t xs] :=
  .inr ⟨b, m, [], rfl, hl, Nat.le_refl _, by simp, by simp⟩
theorem OwnS.len {t : TypeId} {sz : Nat} {v : Value} {m : Nat} {xs : List Value} {ch : List Row} (o : OwnS t sz v m xs ch) : xs.length = m * sz := by
  rcases o with ⟨_, rfl, rfl, _⟩ | ⟨b, cap, slack, _, hl, _⟩
  · simp
  · exact hl
/-- Its shape as a value: an address, the length, a capacity. -/
theorem OwnS.val {t : TypeId} {sz : Nat} {v : Value} {m : Nat} {xs : List Value} {ch : List Row} (o : OwnS t sz v m xs ch) : ∃ A cp, v = .slice A m cp ∧ (A = none → m = 0) ∧ m ≤ cp := by
  rcases o with ⟨rfl, rfl, rfl, _⟩ | ⟨b, cap, slack, rfl, _, hc, _⟩
  · exact ⟨_, _, rfl, fun _ => rfl, Nat.le_refl _⟩
  · exact ⟨_, _, rfl, fun h => (by cases h), hc⟩
theorem OwnS.src {W : World} {B : Nat} {t : TypeId} {sz : Nat} {A : Option Addr} {m cp : Nat} {xs : List Value} {ch : List Row} (o : OwnS t sz (.slice A m cp) m xs ch) : Src W B ch A xs := by
  rcases o with ⟨_, rfl, rfl, _⟩ | ⟨b, cap, slack, hv, _, hc, _, rfl⟩
  · exact .nil
  · injection hv with h1 _ _
    subst h1
    exact .row (fun j v hj => by
      rw [Nat.zero_add, List.getElem?_append_left]
      · exact hj
      · exact (List.getElem?_eq_some_iff.1 hj).1)

section
variable {P : Program} {n : Nat} {c : Ctx} {Q : Exit → Act → World → Prop} {e : Env} {h : Heap} {ops : Array Oper} {rest : List Oper}

theorem cut_appendCap (need old : Nat) (el : TypeId) (t : Nat) : need ≤ (Question.appendCap need old el).cut t := by simp [Question.cut]

/-- The operation laid open: what is appended is no number. -/
theorem run_append_fit {w : World} {t t2 ty el m k sz cap : Nat} {base : Option Addr} {x : Value} {ys : List Value} {d2 : TypeDesc} {i : TypeInfo} (ht : P.underlying t = some (.slice el)) (ht2 : P.underlying t2 = some d2) (hd2 : d2 = .string ∨ ∃ q, d2 = .slice q)
    (hi : P.info? el = some i) (hs : i.size = sz) (hlen : (Builtin.lenOf x).run P w = .ok k w) (hf : (Builtin.firstCells sz k x).run P w = .ok ys.toArray w) (hfit : m + k ≤ cap) :
    (Builtin.append_ #[t, t2] ty #[.slice base m cap, x]).run P w = (match base with
      | some a => ((storeCells (a.add (m * sz)) ys).run P w).andThen fun _ w' => .ok (.slice base (m + k) cap) w'
      | none => .ok (.slice base (m + k) cap) w) := by
  subst hs
  rcases hd2 with rfl | ⟨q, rfl⟩ <;> cases base <;> simp [Builtin.append_, run_underlying ht, run_underlying ht2, sizeOf, typeInfo, hi, hlen, hf, hfit]

theorem run_append_new {w : World} {t t2 ty el m k sz by_ cap : Nat} {base : Option Addr} {x z : Value} {xs ys : List Value} {d2 : TypeDesc} {i : TypeInfo} (ht : P.underlying t = some (.slice el)) (ht2 : P.underlying t2 = some d2) (hd2 : d2 = .string ∨ ∃ q, d2 = .slice q)
    (hi : P.info? el = some i) (hz : i.zero = some z) (hs : i.size = sz) (hb : i.bytes = by_) (hlen : (Builtin.lenOf x).run P w = .ok k w) (hf : (Builtin.firstCells sz k x).run P w.drew = .ok ys.toArray w.drew)
    (hf0 : (Builtin.firstCells sz m (.slice base m cap)).run P w.drew = .ok xs.toArray w.drew) (hnofit : cap < m + k) (h63 : m + k ≤ 9223372036854775807) (h48 : Builtin.nextslicecap (m + k) cap * by_ ≤ 281474976710656) :
    (Builtin.append_ #[t, t2] ty #[.slice base m cap, x]).run P w = .ok (.slice (some ⟨w.heap.size, 0, none⟩) (m + k) (grownCap w (m + k) cap el))
      (w.drew.alloc (.cells (xs.toArray ++ ys.toArray ++ Builtin.zeroCells z.cells (grownCap w (m + k) cap el - (m + k))) el)) := by
  subst hs hb
  have hn : ¬ (m + k ≤ cap) := by omega
  have h63' : ¬ (9223372036854775807 < ((m : Int) + (k : Int))) := by omega
  have h48' : ¬ (281474976710656 < Builtin.nextslicecap (m + k) cap * i.bytes) := by omega
  rcases hd2 with rfl | ⟨q, rfl⟩ <;> simp [Builtin.append_, run_underlying ht, run_underlying ht2, sizeOf, typeInfo, zeroValue, hi, hz, hlen, hn, h63', h48', Question.forced, hf, hf0, newRow, grownCap] <;> (congr 2; apply Array.ext'; simp)

theorem run_append_own {w : World} {t t2 ty el sz by_ m k : Nat} {v x z : Value} {xs ys : List Value} {ch : List Row} {h' : Heap} {d2 : TypeDesc} (ht : P.underlying t = some (.slice el)) (ht2 : P.underlying t2 = some d2) (hd2 : d2 = .string ∨ ∃ q, d2 = .slice q)
    (hi : (P.info? el).map (fun i => (i.zero, i.size, i.bytes)) = some (some z, sz, by_)) (hzs : z.cells.size = sz) (s : St c h w) (tk : Take ch h h') (o : OwnS el sz v m xs ch) (hlen : (Builtin.lenOf x).run P w = .ok k w)
    (hfirst : ∀ w', St c h w' → (Builtin.firstCells sz k x).run P w' = .ok ys.toArray w') (hyl : ys.length = k * sz) (h1 : ∀ u ∈ ys, u.oneCell' = true) (h63 : m + k ≤ 9223372036854775807) (hb : (m + k) * by_ ≤ 140737488355328) :
    ∃ v' ch' w', (Builtin.append_ #[t, t2] ty #[v, x]).run P w = .ok v' w' ∧ OwnS el sz v' (m + k) (xs ++ ys) ch' ∧ St c (ch' :: h') w' := by
  obtain ⟨i, hi', hz, rfl, rfl⟩ := info_parts hi
  have hcz : ∀ q, (Builtin.zeroCells z.cells q).size = q * i.size := fun q => by simp [Builtin.zeroCells, hzs]
  rcases o with ⟨rfl, rfl, rfl, rfl⟩ | ⟨b, cap, slack, rfl, hxl, hmc, hsl, rfl⟩
  · have hs' : St c h' w.drew := (s.drew).sub (Sub.of_perm (by simpa [Take] using tk))
    rcases Nat.eq_zero_or_pos k with rfl | hk
    · have hys : ys = [] := List.eq_nil_of_length_eq_zero (by simpa using hyl)
      subst hys
      refine ⟨.slice none 0 0, [], w, run_append_fit ht ht2 hd2 hi' rfl hlen (hfirst w s) (Nat.le_refl _), .inl ⟨rfl, rfl, rfl, rfl⟩, s.sub (Sub.of_perm (by simpa [Take] using tk))⟩
    · have hcap : 0 + k ≤ grownCap w (0 + k) 0 el := cut_appendCap _ _ _ _
      have hrun := run_append_new (P := P) (w := w) (ty := ty) (base := none) (m := 0) (cap := 0) (xs := []) ht ht2 hd2 hi' hz rfl rfl hlen (hfirst _ s.drew) (by simp [Builtin.firstCells]) (by omega) (by omega) (by
        rw [Nat.zero_add, nextslicecap_zero hk]
        simp at hb; omega)
      refine ⟨_, _, _, hrun, .inr ⟨w.heap.size, _, (Builtin.zeroCells z.cells (grownCap w (0 + k) 0 el - (0 + k))).toList, rfl, by simpa using hyl, hcap, by simp [hcz], rfl⟩, ?_⟩
      have h0 := hs'.alloc (.cells ([].toArray ++ ys.toArray ++ Builtin.zeroCells z.cells (grownCap w (0 + k) 0 el - (0 + k))) el)
      have hA : ([].toArray ++ ys.toArray ++ Builtin.zeroCells z.cells (grownCap w (0 + k) 0 el - (0 + k)) : Array Value) = ([] ++ ys ++ (Builtin.zeroCells z.cells (grownCap w (0 + k) 0 el - (0 + k))).toList).toArray := by apply Array.ext'; simp
      rw [hA] at h0 ⊢
      exact h0
  · rcases Nat.lt_or_ge cap (m + k) with hg | hg
    · have hcap : m + k ≤ grownCap w (m + k) cap el := cut_appendCap _ _ _ _
      have hf0 : ∀ w', St c h w' → (Builtin.firstCells i.size m (.slice (some ⟨b, 0, none⟩) m cap)).run P w' = .ok xs.toArray w' := fun w' s' =>
        run_firstCells_some w' i.size m _ m cap xs hxl (fun j u hj => by
          rw [Addr.add_mid, Nat.zero_add]
          refine s'.cell tk ?_
          rw [List.getElem?_append_left (List.getElem?_eq_some_iff.1 hj).1]
          exact hj)
      have hrun := run_append_new (P := P) (w := w) (ty := ty) ht ht2 hd2 hi' hz rfl rfl hlen (hfirst _ s.drew) (hf0 _ s.drew) hg h63 (growslice_fits (by omega) hb)
      refine ⟨_, _, _, hrun, .inr ⟨w.heap.size, _, (Builtin.zeroCells z.cells (grownCap w (m + k) cap el - (m + k))).toList, rfl, by rw [List.length_append, hxl, hyl, Nat.add_mul], hcap, by simp [hcz], rfl⟩, ?_⟩
      have hs' : St c h' w.drew := (s.drew).sub ⟨[cr b el (xs ++ slack)], (List.perm_append_comm).trans tk⟩
      have h0 := hs'.alloc (.cells (xs.toArray ++ ys.toArray ++ Builtin.zeroCells z.cells (grownCap w (m + k) cap el - (m + k))) el)
      have hA : (xs.toArray ++ ys.toArray ++ Builtin.zeroCells z.cells (grownCap w (m + k) cap el - (m + k)) : Array Value) = (xs ++ ys ++ (Builtin.zeroCells z.cells (grownCap w (m + k) cap el - (m + k))).toList).toArray := by apply Array.ext'; simp
      rw [hA] at h0 ⊢
      exact h0
    · have hfitl : m * i.size + ys.length ≤ (xs ++ slack).length := by
        rw [List.length_append, hxl, hsl, hyl, ← Nat.add_mul, ← Nat.add_mul]
        exact Nat.mul_le_mul_right _ (by omega)
      have hst := run_storeCells_at P b (m * i.size) el ys 0 (xs ++ slack).toArray w (s.row tk) (by simpa using hfitl) h1
      simp only [Nat.add_zero] at hst
      have hrun := run_append_fit (P := P) (w := w) (ty := ty) (base := some ⟨b, 0, none⟩) ht ht2 hd2 hi' rfl hlen (hfirst w s) hg
      simp only [Addr.add_mid, Nat.zero_add, hst, Result.andThen_ok] at hrun
      refine ⟨_, [cr b el ((xs ++ slack).take (m * i.size) ++ ys ++ (xs ++ slack).drop (m * i.size + ys.length))], _, hrun, .inr ⟨b, cap, slack.drop ys.length, rfl, by rw [List.length_append, hxl, hyl, Nat.add_mul], hg, ?_, ?_⟩, s.setRow tk⟩
      · rw [List.length_drop, hsl, hyl, ← Nat.sub_mul]
        congr 1
        omega
      · congr 2
        rw [← hxl, List.take_left, List.append_assoc, List.append_assoc, List.drop_append, List.drop_eq_nil_of_le (by omega : xs.length ≤ xs.length + ys.length), Nat.add_sub_cancel_left, List.nil_append]

theorem LW.append {d ty t t2 el sz by_ m k : Nat} {pos : String} {af : Array Edge} {x y : Operand} {v u z : Value} {xs : List Value} {ch : List Row} {h' : Heap} {d2 : TypeDesc} (ys : List Value) (hx : e.ev x = some v) (hy : e.ev y = some u) (ht : P.underlying t = some (.slice el)) (ht2 : P.underlying t2 = some d2) (hd2 : d2 = .string ∨ ∃ q, d2 = .slice q)
    (hi : (P.info? el).map (fun i => (i.zero, i.size, i.bytes)) = some (some z, sz, by_)) (hzs : z.cells.size = sz) (o : OwnS el sz v m xs ch) (tk : Take ch h h') (hlen : ∀ w, (Builtin.lenOf u).run P w = .ok k w)
    (hfirst : ∀ w', St c h w' → (Builtin.firstCells sz k u).run P w' = .ok ys.toArray w') (hyl : ys.length = k * sz) (h1 : ∀ u ∈ ys, u.oneCell' = true) (h63 : m + k ≤ 9223372036854775807) (hb : (m + k) * by_ ≤ 140737488355328) (hd : Nat.blt d n = true)
    (kk : ∀ v' ch', OwnS el sz v' (m + k) (xs ++ ys) ch' → LW P n c ops Q rest ((d, v') :: e) (ch' :: h')) :
    LW P n c ops Q (⟨some d, .call { callee := .builtin .append, args := #[x, y], argTypes := #[t, t2] }, ty, pos, af, none⟩ :: rest) e h :=
  LW.act hd fun a w hf s => by
    obtain ⟨v', ch', w', hrun, ho, hs'⟩ := run_append_own (P := P) (ty := ty) ht ht2 hd2 hi hzs s tk o (hlen w) hfirst hyl h1 h63 hb
    refine ⟨v', ch' :: h', w', ?_, hs', kk v' ch' ho⟩
    simp only [execOp, resolve, invoke, builtin, List.map_toArray, List.map_cons, List.map_nil, hf.eval hx, hf.eval hy, Sem.run_bind, Sem.run_pure, Result.andThen_ok, hrun]

theorem lenOf_slice (A : Option Addr) (l cp : Nat) (w : World) : (Builtin.lenOf (.slice A l cp)).run P w = .ok l w := rfl
theorem lenOf_string (s : ByteArray) (w : World) : (Builtin.lenOf (.string s)).run P w = .ok s.size w := rfl
theorem first_string (s : ByteArray) (w : World) : (Builtin.firstCells 1 s.size (.string s)).run P w = .ok (s.data.toList.map fun b => Value.int .u8 (b.toNat : Int)).toArray w := by
  simp only [Builtin.firstCells, Sem.run_pure]
  congr 1
  apply Array.ext'
  have : (s.extract 0 s.size) = s := by simp
  rw [this]
  simp
theorem first_rd {A : Option Addr} {l cp sz : Nat} {ys : List Value} (k : RdAt c h A ys) (hl : ys.length = l * sz) (hA : A = none → l = 0) : ∀ w', St c h w' → (Builtin.firstCells sz l (.slice A l cp)).run P w' = .ok ys.toArray w' :=
  fun w' s' => run_firstCells_rd k s' hl (fun h0 => by rw [hA h0]; simp)
end
end Go.Proofs.YtemdebmfdhamgaaFmt
