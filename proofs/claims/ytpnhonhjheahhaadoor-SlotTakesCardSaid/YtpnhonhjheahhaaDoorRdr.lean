/-
  A READER as a plain value; an append of noughts.
-/
import Derived.Test.YtpnhonhjheahhaaDoorBinLaw
import Derived.Test.YtpnhonhjheahhaaDoorBin4
namespace Go.Proofs.YtpnhonhjheahhaaDoor
/-- A reader: what is left; whether something was wrong. -/
def rdI (r : List UInt8 × Bool) : Int × (List UInt8 × Bool) :=
  if r.2 = true then (0, r) else match getZ r.1 with
    | none => (0, (r.1, true))
    | some (n, k) => (n, (r.1.drop k, false))
def rdN : Nat → List UInt8 × Bool → List Int × (List UInt8 × Bool)
  | 0, r => ([], r)
  | k + 1, r => ((rdI r).1 :: (rdN k (rdI r).2).1, (rdN k (rdI r).2).2)
def slotX (s : Int) (ns : List Int) : List UInt8 := encs [20750, s, (ns.length : Int)] ++ encs ns
def slotB (s : Int) (ns : List Int) : List UInt8 := (slotX s ns ++ List.replicate 64 0).take 64
def slotHead (b : List UInt8) : Int × Int × Int × (List UInt8 × Bool) :=
  ((rdI (b, false)).1, (rdI (rdI (b, false)).2).1, (rdI (rdI (rdI (b, false)).2).2).1, (rdI (rdI (rdI (b, false)).2).2).2)
def slotFine (h : Int × Int × Int × (List UInt8 × Bool)) : Bool := !h.2.2.2.2 && (h.1 == 20750) && decide (1 ≤ h.2.1) && decide (0 ≤ h.2.2.1) && decide (h.2.2.1 ≤ 4)
def slotGet (b : List UInt8) (i : Int) : Int × List Int :=
  if slotFine (slotHead b) = true then
    if (rdN (slotHead b).2.2.1.toNat (slotHead b).2.2.2).2.2 = false ∧ (slotHead b).2.1.tmod 2 = i then ((slotHead b).2.1, (rdN (slotHead b).2.2.1.toNat (slotHead b).2.2.2).1) else (0, [])
  else (0, [])
theorem rdI_enc {n : Int} (hn : I64 n) (r : List UInt8) : rdI (encZ n ++ r, false) = (n, (r, false)) := by
  simp only [rdI, Bool.false_eq_true, if_false, getZ_enc hn r]
  rw [List.drop_append_of_le_length (by rw [encZ_len]; exact Nat.le_refl _), List.drop_eq_nil_of_le (by rw [encZ_len]; exact Nat.le_refl _), List.nil_append]
theorem rdN_encs : ∀ (ns : List Int) (r : List UInt8), (∀ n ∈ ns, I64 n) → rdN ns.length (encs ns ++ r, false) = (ns, (r, false))
  | [], r, _ => by simp [rdN, encs]
  | n :: ns, r, h => by
    have h1 : encs (n :: ns) ++ r = encZ n ++ (encs ns ++ r) := by simp [encs]
    have h2 := rdN_encs ns r (fun m hm => h m (by simp [hm]))
    rw [h1]
    simp only [List.length_cons, rdN, rdI_enc (h n (by simp)), h2]
theorem slotX_len {s : Int} {ns : List Int} (h : ns.length ≤ 4) : (slotX s ns).length ≤ 63 := by
  have h1 := encs_len [20750, s, (ns.length : Int)]
  have h2 := encs_len ns
  simp at h1
  rw [slotX, List.length_append]
  omega
theorem slotB_eq {s : Int} {ns : List Int} (h : ns.length ≤ 4) : slotB s ns = slotX s ns ++ List.replicate (64 - (slotX s ns).length) 0 := by
  have := slotX_len (s := s) h
  rw [slotB, List.take_append, List.take_of_length_le (by omega), List.take_replicate]
  congr 2
  omega
theorem slotB_len (s : Int) (ns : List Int) : (slotB s ns).length = 64 := by simp [slotB]
theorem slotHead_B {s : Int} {ns : List Int} (hs : I64 s) (h4 : ns.length ≤ 4) : slotHead (slotB s ns) = (20750, s, (ns.length : Int), (encs ns ++ List.replicate (64 - (slotX s ns).length) 0, false)) := by
  have h0 : I64 20750 := ⟨by decide, by decide⟩
  have hl : I64 (ns.length : Int) := ⟨by omega, by omega⟩
  have hb : slotB s ns = encZ 20750 ++ (encZ s ++ (encZ (ns.length : Int) ++ (encs ns ++ List.replicate (64 - (slotX s ns).length) 0))) := by
    rw [slotB_eq h4]
    simp [slotX, encs]
  rw [hb]
  simp only [slotHead, rdI_enc h0, rdI_enc hs, rdI_enc hl]
theorem slotGet_B {s : Int} {ns : List Int} (hs : I64 s) (h1 : 1 ≤ s) (h4 : ns.length ≤ 4) (hn : ∀ n ∈ ns, I64 n) : slotGet (slotB s ns) (s.tmod 2) = (s, ns) := by
  have hf : slotFine (20750, s, (ns.length : Int), (encs ns ++ List.replicate (64 - (slotX s ns).length) 0, false)) = true := by
    simp [slotFine, h1]; omega
  rw [slotGet, slotHead_B hs h4, if_pos hf]
  simp only [Int.toNat_natCast, rdN_encs ns _ hn, and_self, if_true]
theorem slotGet_zero (i : Int) : slotGet zSec i = (0, []) := by
  have : slotFine (slotHead zSec) = false := by decide +kernel
  rw [slotGet, this]; rfl
/-- Whatever a sector holds: what is read is none, or a number from 1 on. -/
theorem slotGet_or (b : List UInt8) (i : Int) : slotGet b i = (0, []) ∨ (1 ≤ (slotGet b i).1 ∧ (slotGet b i).1.tmod 2 = i) := by
  unfold slotGet
  by_cases hf : slotFine (slotHead b) = true
  · rw [if_pos hf]
    split
    · rename_i h
      refine .inr ⟨?_, h.2⟩
      simp [slotFine] at hf
      exact hf.1.1.2
    · exact .inl rfl
  · rw [if_neg hf]; exact .inl rfl
end Go.Proofs.YtpnhonhjheahhaaDoor

namespace Go.Proofs.YtpnhonhjheahhaaDoor
open Go.RowKit
def RdQ (W : World) (B : Nat) (v : Value) (r : List UInt8 × Bool) (ch : List Row) : Prop := r.2 = false → RdS W B v r.1 ch
section
variable (W : World) (B : Nat)
theorem bin_RIntQ (p : Nat) (v : Value) (r : List UInt8 × Bool) (ch : List Row) (hv : RdQ W B v r ch) (hlen : r.1.length ≤ 1000000000) (m : Int) (r' : List UInt8 × Bool) (h : rdI r = (m, r')) :
    Spec Tryd.prog W B 64 [.pointer (some ⟨p, 0, none⟩)] ([cr p 121 [v, .bool r.2]] ++ ch)
      (fun x post => x = .int .i64 m ∧ ∃ v', RdQ W B v' r' ch ∧ post = [cr p 121 [v', .bool r'.2]] ++ ch) := by
  obtain ⟨bs, bad⟩ := r
  cases bad
  · cases hg : getZ bs with
    | none =>
      simp only [rdI, Bool.false_eq_true, if_false, hg, Prod.mk.injEq] at h
      obtain ⟨rfl, rfl⟩ := h
      refine (bin_RInt_none W B p v bs ch (hv rfl) hlen hg).mono ?_
      rintro x post ⟨rfl, rfl⟩
      exact ⟨rfl, v, fun h => (by cases h), rfl⟩
    | some q =>
      obtain ⟨n, k⟩ := q
      simp only [rdI, Bool.false_eq_true, if_false, hg, Prod.mk.injEq] at h
      obtain ⟨rfl, rfl⟩ := h
      refine (bin_RInt_some W B p v bs ch (hv rfl) hlen n k hg).mono ?_
      rintro x post ⟨rfl, v', hs, rfl⟩
      exact ⟨rfl, v', fun _ => hs, rfl⟩
  · simp only [rdI, if_true, Prod.mk.injEq] at h
    obtain ⟨rfl, rfl⟩ := h
    refine (bin_RInt_bad W B p v ch).mono ?_
    rintro x post ⟨rfl, rfl⟩
    exact ⟨rfl, v, fun h => (by cases h), rfl⟩
end
theorem rdI_len {r r' : List UInt8 × Bool} {m : Int} (h : rdI r = (m, r')) : r'.1.length ≤ r.1.length := by
  unfold rdI at h
  split at h
  · simp only [Prod.mk.injEq] at h; rw [← h.2]; exact Nat.le_refl _
  · split at h
    · simp only [Prod.mk.injEq] at h; rw [← h.2]; exact Nat.le_refl _
    · simp only [Prod.mk.injEq] at h; rw [← h.2]; simp
theorem rdN_succ : ∀ (k : Nat) (r : List UInt8 × Bool), rdN (k + 1) r = ((rdN k r).1 ++ [(rdI (rdN k r).2).1], (rdI (rdN k r).2).2)
  | 0, r => by simp [rdN]
  | k + 1, r => by
    have ih := rdN_succ k (rdI r).2
    rw [show rdN (k + 1 + 1) r = ((rdI r).1 :: (rdN (k + 1) (rdI r).2).1, (rdN (k + 1) (rdI r).2).2) from rfl, ih]
    simp [rdN]
theorem rdN_len : ∀ (k : Nat) (r : List UInt8 × Bool), (rdN k r).1.length = k
  | 0, r => rfl
  | k + 1, r => by simp [rdN, rdN_len k]
theorem rdN_left : ∀ (k : Nat) (r : List UInt8 × Bool), (rdN k r).2.1.length ≤ r.1.length
  | 0, r => Nat.le_refl _
  | k + 1, r => Nat.le_trans (rdN_left k (rdI r).2) (rdI_len (m := (rdI r).1) rfl)

section
variable {P : Program} {n : Nat} {c : Ctx} {Q : Exit → Act → World → Prop} {e : Env} {h : Heap} {ops : Array Oper} {rest : List Oper}
theorem run_append_fitZ {w : World} {t t2 ty el m k cap : Nat} {kk kx : IntKind} {base : Option Addr} {z : Value} {i : TypeInfo} (ht : P.underlying t = some (.slice el)) (ht2 : P.underlying t2 = some (.int kk))
    (hi : P.info? el = some i) (hz : i.zero = some z) (hk : 0 < k) (hs : 0 < i.size) (hw : IntKind.i64.wrap (k : Int) = (k : Int)) (h48 : k * i.bytes ≤ 281474976710656) (hfit : m + k ≤ cap) :
    (Builtin.append_ #[t, t2] ty #[.slice base m cap, .int kx (k : Int)]).run P w = (match base with
      | some a => ((storeCells (a.add (m * i.size)) (Builtin.zeroCells z.cells k).toList).run P w).andThen fun _ w' => .ok (.slice base (m + k) cap) w'
      | none => .ok (.slice base (m + k) cap) w) := by
  have h0 : ¬ ((k : Int) < 0) := by omega
  have hks : ¬ (k * i.size = 0) := Nat.ne_of_gt (Nat.mul_pos hk hs)
  have h48' : ¬ (281474976710656 < (k : Int) * (i.bytes : Int)) := by rw [← Int.natCast_mul]; omega
  cases base <;> simp [Builtin.append_, run_underlying ht, run_underlying ht2, sizeOf, typeInfo, zeroValue, hi, hz, asInt, asIntOf, hw, h0, h48', hks, hfit]
theorem run_append_newZ {w : World} {t t2 ty el m k cap : Nat} {kk kx : IntKind} {base : Option Addr} {z : Value} {xs : List Value} {i : TypeInfo} (ht : P.underlying t = some (.slice el)) (ht2 : P.underlying t2 = some (.int kk))
    (hi : P.info? el = some i) (hz : i.zero = some z) (hk : 0 < k) (hs : 0 < i.size) (hw : IntKind.i64.wrap (k : Int) = (k : Int)) (h48 : k * i.bytes ≤ 281474976710656)
    (hf0 : (Builtin.firstCells i.size m (.slice base m cap)).run P w.drew = .ok xs.toArray w.drew) (hnofit : cap < m + k) (h63 : m + k ≤ 9223372036854775807) (h48n : Builtin.nextslicecap (m + k) cap * i.bytes ≤ 281474976710656) :
    (Builtin.append_ #[t, t2] ty #[.slice base m cap, .int kx (k : Int)]).run P w = .ok (.slice (some ⟨w.heap.size, 0, none⟩) (m + k) (grownCap w (m + k) cap el))
      (w.drew.alloc (.cells (xs.toArray ++ Builtin.zeroCells z.cells k ++ Builtin.zeroCells z.cells (grownCap w (m + k) cap el - (m + k))) el)) := by
  have h0 : ¬ ((k : Int) < 0) := by omega
  have hks : ¬ (k * i.size = 0) := Nat.ne_of_gt (Nat.mul_pos hk hs)
  have h48' : ¬ (281474976710656 < (k : Int) * (i.bytes : Int)) := by rw [← Int.natCast_mul]; omega
  have hn : ¬ (m + k ≤ cap) := by omega
  have h63' : ¬ (9223372036854775807 < ((m : Int) + (k : Int))) := by omega
  have h48n' : ¬ (281474976710656 < Builtin.nextslicecap (m + k) cap * i.bytes) := by omega
  simp [Builtin.append_, run_underlying ht, run_underlying ht2, sizeOf, typeInfo, zeroValue, hi, hz, asInt, asIntOf, hw, h0, h48', hks, hn, h63', h48n', Question.forced, hf0, newRow, grownCap]
/-- 'append(s, make([]T, k)...)': noughts of one cell each. -/
theorem LW.appendZ {d ty t t2 el by_ m k : Nat} {pos : String} {af : Array Edge} {x y : Operand} {kk kx : IntKind} {v z : Value} {xs : List Value} {ch : List Row} {h' : Heap} (hx : e.ev x = some v) (hy : e.ev y = some (.int kx (k : Int))) (ht : P.underlying t = some (.slice el)) (ht2 : P.underlying t2 = some (.int kk))
    (hi : (P.info? el).map (fun i => (i.zero, i.size, i.bytes)) = some (some z, 1, by_)) (hz1 : z.cells.toList = [z]) (h1 : z.oneCell' = true) (o : OwnS el 1 v m xs ch) (tk : Take ch h h') (hk : 0 < k) (h63 : m + k ≤ 1000000000) (hb : (m + k) * by_ ≤ 140737488355328) (hd : Nat.blt d n = true)
    (kont : ∀ v' ch', OwnS el 1 v' (m + k) (xs ++ List.replicate k z) ch' → LW P n c ops Q rest ((d, v') :: e) (ch' :: h')) :
    LW P n c ops Q (⟨some d, .call { callee := .builtin .append, args := #[x, y], argTypes := #[t, t2] }, ty, pos, af, none⟩ :: rest) e h :=
  LW.act hd fun a w hf s => by
    obtain ⟨i, hi', hz, hs1, rfl⟩ := info_parts hi
    have hcz : ∀ q, (Builtin.zeroCells z.cells q).toList = List.replicate q z := fun q => by
      have hsz : z.cells.size = 1 := by rw [← Array.length_toList, hz1]; rfl
      have hg : z.cells[0]! = z := by
        rw [getElem!_pos z.cells 0 (by omega)]
        have : z.cells[0]? = some z := by rw [← Array.getElem?_toList, hz1]; rfl
        rw [Array.getElem?_eq_getElem (by omega)] at this
        exact Option.some.inj this
      apply List.ext_getElem?
      intro j
      by_cases hj : j < q
      · simp [Builtin.zeroCells, hsz, hj, Nat.mod_one]
        rw [getElem!_pos z.cells 0 (by omega)] at hg
        exact hg
      · simp [Builtin.zeroCells, hsz, hj]
    have hwk : IntKind.i64.wrap (k : Int) = (k : Int) := wr64 rfl (by omega) (by omega)
    have hkb : k * i.bytes ≤ (m + k) * i.bytes := Nat.mul_le_mul_right _ (by omega)
    have ho := o
    have fin : ∀ v' ch' w', (Builtin.append_ #[t, t2] ty #[v, .int kx (k : Int)]).run P w = .ok v' w' → OwnS el 1 v' (m + k) (xs ++ List.replicate k z) ch' → St c (ch' :: h') w' →
        ∃ v h1 w', (execOp a.eval ⟨some d, .call { callee := .builtin .append, args := #[x, y], argTypes := #[t, t2] }, ty, pos, af, none⟩).run P w = .ok (.value v) w' ∧ St c h1 w' ∧ LW P n c ops Q rest ((d, v) :: e) h1 := fun v' ch' w' hrun ho' hs' => by
      refine ⟨v', ch' :: h', w', ?_, hs', kont v' ch' ho'⟩
      simp only [execOp, resolve, invoke, builtin, List.map_toArray, List.map_cons, List.map_nil, hf.eval hx, hf.eval hy, Sem.run_bind, Sem.run_pure, Result.andThen_ok, hrun]
    rcases o with ⟨rfl, rfl, rfl, rfl⟩ | ⟨b, cap, slack, rfl, hxl, hmc, hsl, rfl⟩
    · have hs' : St c h' w.drew := (s.drew).sub (Sub.of_perm (by simpa [Take] using tk))
      have hcap : 0 + k ≤ grownCap w (0 + k) 0 el := cut_appendCap _ _ _ _
      have hrun := run_append_newZ (P := P) (w := w) (ty := ty) (kx := kx) (base := none) (m := 0) (cap := 0) (xs := []) ht ht2 hi' hz hk (by omega) hwk (by omega) (by simp [Builtin.firstCells]) (by omega) (by omega) (by
        rw [Nat.zero_add, nextslicecap_zero hk]
        simp at hb; omega)
      refine fin _ _ _ hrun (.inr ⟨w.heap.size, _, List.replicate (grownCap w (0 + k) 0 el - (0 + k)) z, rfl, by simp, hcap, by simp, rfl⟩) ?_
      have h0 := hs'.alloc (.cells ([].toArray ++ Builtin.zeroCells z.cells k ++ Builtin.zeroCells z.cells (grownCap w (0 + k) 0 el - (0 + k))) el)
      have hA : ([].toArray ++ Builtin.zeroCells z.cells k ++ Builtin.zeroCells z.cells (grownCap w (0 + k) 0 el - (0 + k)) : Array Value) = ([] ++ List.replicate k z ++ List.replicate (grownCap w (0 + k) 0 el - (0 + k)) z).toArray := by apply Array.ext'; simp [hcz]
      rw [hA] at h0 ⊢
      exact h0
    · rcases Nat.lt_or_ge cap (m + k) with hg | hg
      · have hcap : m + k ≤ grownCap w (m + k) cap el := cut_appendCap _ _ _ _
        have hf0 : ∀ w', St c h w' → (Builtin.firstCells i.size m (.slice (some ⟨b, 0, none⟩) m cap)).run P w' = .ok xs.toArray w' := fun w' s' =>
          run_firstCells_some w' i.size m _ m cap xs (by rw [hs1]; exact hxl) (fun j u hj => by
            rw [Addr.add_mid, Nat.zero_add]
            refine s'.cell tk ?_
            rw [List.getElem?_append_left (List.getElem?_eq_some_iff.1 hj).1]
            exact hj)
        have hrun := run_append_newZ (P := P) (w := w) (ty := ty) (kx := kx) ht ht2 hi' hz hk (by omega) hwk (by omega) (hf0 _ s.drew) hg (by omega) (growslice_fits (by omega) hb)
        refine fin _ _ _ hrun (.inr ⟨w.heap.size, _, List.replicate (grownCap w (m + k) cap el - (m + k)) z, rfl, (by rw [List.length_append, hxl, List.length_replicate]; omega), hcap, by simp, rfl⟩) ?_
        have hs' : St c h' w.drew := (s.drew).sub ⟨[cr b el (xs ++ slack)], (List.perm_append_comm).trans tk⟩
        have h0 := hs'.alloc (.cells (xs.toArray ++ Builtin.zeroCells z.cells k ++ Builtin.zeroCells z.cells (grownCap w (m + k) cap el - (m + k))) el)
        have hA : (xs.toArray ++ Builtin.zeroCells z.cells k ++ Builtin.zeroCells z.cells (grownCap w (m + k) cap el - (m + k)) : Array Value) = (xs ++ List.replicate k z ++ List.replicate (grownCap w (m + k) cap el - (m + k)) z).toArray := by apply Array.ext'; simp [hcz]
        rw [hA] at h0 ⊢
        exact h0
      · have hfitl : m * 1 + (List.replicate k z).length ≤ (xs ++ slack).length := by
          rw [List.length_append, hxl, hsl, List.length_replicate]; omega
        have hst := run_storeCells_at P b (m * 1) el (List.replicate k z) 0 (xs ++ slack).toArray w (s.row tk) (by simpa using hfitl) (fun u hu => by rw [(List.mem_replicate.1 hu).2]; exact h1)
        simp only [Nat.add_zero] at hst
        have hrun := run_append_fitZ (P := P) (w := w) (ty := ty) (kx := kx) (base := some ⟨b, 0, none⟩) ht ht2 hi' hz hk (by omega) hwk (by omega) hg
        simp only [hs1, hcz, Addr.add_mid, Nat.zero_add, hst, Result.andThen_ok] at hrun
        refine fin _ [cr b el ((xs ++ slack).take (m * 1) ++ List.replicate k z ++ (xs ++ slack).drop (m * 1 + (List.replicate k z).length))] _ hrun (.inr ⟨b, cap, slack.drop k, rfl, (by rw [List.length_append, hxl, List.length_replicate]; omega), hg, ?_, ?_⟩) (s.setRow tk)
        · rw [List.length_drop, hsl]; omega
        · congr 2
          rw [← hxl, List.take_left, List.append_assoc, List.append_assoc, List.length_replicate, List.drop_append, List.drop_eq_nil_of_le (by omega : xs.length ≤ xs.length + k), Nat.add_sub_cancel_left, List.nil_append]
end
end Go.Proofs.YtpnhonhjheahhaaDoor
