/-
  THE DOCUMENT's DEVICE: its rows in memory, sector by sector in blocks of their own.
-/
import Derived.Test.YtmgpldgldgdenaaDoorBinDef
import Derived.Test.YtmgpldgldgdenaaDoorLooseDef
import Derived.Test.YtmgpldgldgdenaaDoorAuto
namespace Go.Proofs.YtmgpldgldgdenaaDoor
open Go.RowKit
/-- A slice value onto 64 bytes that lie in these rows. -/
def SecAt (W : World) (B : Nat) (ar : List Row) (v : Value) (bs : List UInt8) : Prop := ∃ A cp, v = .slice A 64 cp ∧ bs.length = 64 ∧ Src W B ar A (bs.map u8v)
theorem Src.more {W : World} {B : Nat} {r r' : List Row} {A : Option Addr} {xs : List Value} (k : Src W B r A xs) (h : ∀ x ∈ r, x ∈ r') : Src W B r' A xs := by
  rcases k with h1 | ⟨a, h1, h2 | ⟨b, o, t, l, h3, h4, h5⟩⟩
  · exact .inl h1
  · exact .inr ⟨a, h1, .inl h2⟩
  · exact .inr ⟨a, h1, .inr ⟨b, o, t, l, h3, h _ h4, h5⟩⟩
theorem SecAt.more {W : World} {B : Nat} {r r' : List Row} {v : Value} {bs : List UInt8} (k : SecAt W B r v bs) (h : ∀ x ∈ r, x ∈ r') : SecAt W B r' v bs := by
  obtain ⟨A, cp, h1, h2, h3⟩ := k
  exact ⟨A, cp, h1, h2, h3.more h⟩
theorem SecAt.one {W : World} {B : Nat} {r : List Row} {v : Value} {bs : List UInt8} (k : SecAt W B r v bs) : v.oneCell' = true := by
  obtain ⟨A, cp, rfl, _⟩ := k
  rfl
/-- Sector by sector. -/
def SecsAt (W : World) (B : Nat) (ar : List Row) (vs : List Value) (l : List (List UInt8)) (n : Nat) : Prop := vs.length = n ∧ ∀ i, i < n → SecAt W B ar (vs.getD i undef) (l.getD i [])
theorem SecsAt.more {W : World} {B : Nat} {r r' : List Row} {vs : List Value} {l : List (List UInt8)} {n : Nat} (k : SecsAt W B r vs l n) (h : ∀ x ∈ r, x ∈ r') : SecsAt W B r' vs l n := ⟨k.1, fun i hi => (k.2 i hi).more h⟩
theorem SecsAt.get {W : World} {B : Nat} {r : List Row} {vs : List Value} {l : List (List UInt8)} {n : Nat} (k : SecsAt W B r vs l n) {i : Nat} (hi : i < n) : vs[i]? = some (vs.getD i undef) := by
  have : i < vs.length := by rw [k.1]; exact hi
  simp [List.getD, List.getElem?_eq_getElem this]
theorem SecsAt.set {W : World} {B : Nat} {r : List Row} {vs : List Value} {l : List (List UInt8)} {n : Nat} (k : SecsAt W B r vs l n) (hl : l.length = n) {i : Nat} (hi : i < n) {v : Value} {bs : List UInt8} (hv : SecAt W B r v bs) : SecsAt W B r (vs.set i v) (l.set i bs) n := by
  refine ⟨by rw [List.length_set]; exact k.1, fun j hj => ?_⟩
  rw [getD_set _ _ _ _ _ (by rw [k.1]; exact hi), getD_set _ _ _ _ _ (by rw [hl]; exact hi)]
  split
  · exact hv
  · exact k.2 j hj
theorem SecsAt.app {W : World} {B : Nat} {r : List Row} {vs : List Value} {l : List (List UInt8)} {n : Nat} (k : SecsAt W B r vs l n) (hl : l.length = n) {v : Value} {bs : List UInt8} (hv : SecAt W B r v bs) : SecsAt W B r (vs ++ [v]) (l ++ [bs]) (n + 1) := by
  refine ⟨by rw [List.length_append, k.1]; rfl, fun j hj => ?_⟩
  rcases Nat.lt_or_ge j n with h | h
  · rw [List.getD_eq_getElem?_getD, List.getElem?_append_left (by rw [k.1]; exact h), ← List.getD_eq_getElem?_getD, List.getD_eq_getElem?_getD (l := l ++ [bs]), List.getElem?_append_left (by rw [hl]; exact h), ← List.getD_eq_getElem?_getD]
    exact k.2 j h
  · obtain rfl : j = n := by omega
    rw [List.getD_eq_getElem?_getD, List.getElem?_append_right (by rw [k.1]; exact Nat.le_refl _), k.1, Nat.sub_self, List.getD_eq_getElem?_getD (l := l ++ [bs]), List.getElem?_append_right (by rw [hl]; exact Nat.le_refl _), hl, Nat.sub_self]
    exact hv
/-- The document's device in memory. -/
structure RD where
  q : Nat
  bl : Nat
  vN : Value
  vS : Value
  nv : List Value
  sv : List Value
  chN : List Row
  chS : List Row
  ar : List Row
def rdHead (r : RD) (n : Nat) (s : DevS) : List Value := [r.vN, r.vS, .slice (some ⟨r.bl, 0, none⟩) n n, .int .i64 s.fuse, .bool s.fused]
def RD.heap (r : RD) (n : Nat) (s : DevS) : Heap := [[cr r.q 71 (rdHead r n s)], r.chN, r.chS, [cr r.bl 4 (s.loose.map .bool)], r.ar]
def RD.rows (r : RD) (n : Nat) (s : DevS) : List Row := [cr r.q 71 (rdHead r n s)] ++ (r.chN ++ (r.chS ++ ([cr r.bl 4 (s.loose.map .bool)] ++ r.ar)))
structure RD.Ok (W : World) (B : Nat) (r : RD) (n : Nat) (s : DevS) : Prop where
  ownN : OwnS 26 1 r.vN n r.nv r.chN
  ownS : OwnS 26 1 r.vS n r.sv r.chS
  secN : SecsAt W B r.ar r.nv s.now n
  secS : SecsAt W B r.ar r.sv s.was n
  ok : s.Ok n
  dn : s.down = (s.fused && decide (s.fuse ≤ 0))
theorem RD.heap_eq (r : RD) (n : Nat) (s : DevS) : (r.heap n s).flatten = r.rows n s := by simp [RD.heap, RD.rows]
section
variable {P : Program} {n : Nat} {c : Ctx} {Q : Exit → Act → World → Prop} {e : Env} {h : Heap} {ops : Array Oper} {rest : List Oper}
theorem LW.openR {r : RD} {m : Nat} {s : DevS} (k : LW P n c ops Q rest e ([cr r.q 71 (rdHead r m s)] :: r.chN :: r.chS :: [cr r.bl 4 (s.loose.map .bool)] :: r.ar :: h)) : LW P n c ops Q rest e (r.rows m s :: h) := k.heap (Sub.of_perm (by simp [RD.rows]))
theorem LW.openRp {x : List Row} {r : RD} {m : Nat} {s : DevS} (k : LW P n c ops Q rest e (x :: [cr r.q 71 (rdHead r m s)] :: r.chN :: r.chS :: [cr r.bl 4 (s.loose.map .bool)] :: r.ar :: h)) : LW P n c ops Q rest e (x :: r.rows m s :: h) := k.heap (Sub.of_perm (by simp [RD.rows]))
end
theorem Take.rd {r : RD} {m : Nat} {s : DevS} {h h1 h2 h3 h4 h5 : Heap} (k1 : Take [cr r.q 71 (rdHead r m s)] h h1) (k2 : Take r.chN h1 h2) (k3 : Take r.chS h2 h3) (k4 : Take [cr r.bl 4 (s.loose.map .bool)] h3 h4) (k5 : Take r.ar h4 h5) : Take (r.rows m s) h h5 :=
  Take.both k1 (Take.both k2 (Take.both k3 (Take.both k4 k5)))
theorem SecAt.some {W : World} {B : Nat} {r : List Row} {v : Value} {bs : List UInt8} (k : SecAt W B r v bs) : ∃ a cp, v = .slice (some a) 64 cp ∧ Src W B r (some a) (bs.map u8v) := by
  obtain ⟨A, cp, rfl, hl, hs⟩ := k
  obtain ⟨a, rfl⟩ := hs.some (by rw [List.length_map]; omega)
  exact ⟨a, cp, rfl, hs⟩
end Go.Proofs.YtmgpldgldgdenaaDoor
