/-
  TWO MAPS KEPT BESIDE A DEVICE: what the device holds, told by them. The plain law: no program in sight.
-/
import Derived.Test.YtmgpldgldgdenaaDoorLooseDef
import Derived.Test.YtmgpldgldgdenaaDoorMapX
import Derived.Test.YtmgpldgldgdenaaDoorLawOwn
namespace Go.Proofs.YtmgpldgldgdenaaDoor
open Go.RowKit
/-- What a map of small numbers answers. -/
def gotM (ks : List Int) (F : Int → UInt8) (G : Nat → UInt8) (q : Nat) : UInt8 := if (q : Int) ∈ ks then F (q : Int) else G q
def numM (F : Int → UInt8) (q : Int) : Int := ((F q).toNat : Int)
theorem numM_set (F : Int → UInt8) (k : Int) (U : UInt8) : (fun q => if q = k then (U.toNat : Int) else numM F q) = numM (fun q => if q = k then U else F q) := by
  funext q
  show (if q = k then (U.toNat : Int) else ((F q).toNat : Int)) = (((if q = k then U else F q) : UInt8).toNat : Int)
  split <;> rfl
theorem gotM_set (ks : List Int) (F : Int → UInt8) (G : Nat → UInt8) (k : Nat) (U : UInt8) (q : Nat) : gotM (if (k : Int) ∈ ks then ks else ks ++ [(k : Int)]) (fun q => if q = (k : Int) then U else F q) G q = if k = q then U else gotM ks F G q := by
  by_cases hq : k = q
  · subst hq
    have : (k : Int) ∈ (if (k : Int) ∈ ks then ks else ks ++ [(k : Int)]) := by split <;> simp [*]
    simp [gotM, this]
  · have hq' : ¬ (q : Int) = (k : Int) := by omega
    have : (q : Int) ∈ (if (k : Int) ∈ ks then ks else ks ++ [(k : Int)]) ↔ (q : Int) ∈ ks := by split <;> simp [hq']
    simp only [gotM, this, hq', if_false, hq]
theorem mem_set (ks : List Int) (k x : Int) : x ∈ (if k ∈ ks then ks else ks ++ [k]) ↔ x ∈ ks ∨ x = k := by
  split
  · rename_i h
    exact ⟨.inl, fun h' => h'.elim id (fun h'' => h'' ▸ h)⟩
  · simp
/-- The device, as a map of what was written tells it. -/
structure Kept2 (G : Nat → UInt8) (m : Value) (s : DevS) (ks : List Int) (F : Int → UInt8) (ch : List Row) : Prop where
  ok : s.Ok 64
  up : s.down = false
  cold : s.fused = false
  own : OwnM .u8 m ks (numM F) ch
  now : ∀ q, q < 64 → s.now.getD q [] = bytes (gotM ks F G q)
  was : ∀ q, q < 64 → s.was.getD q [] = bytes (G q)
  loose : ∀ q, q < 64 → s.loose.getD q false = decide ((q : Int) ∈ ks)
  keys : ∀ k ∈ ks, 0 ≤ k ∧ k < 64
theorem calm {s : DevS} (h : s.fused = false) : s.burn = s := by simp [DevS.burn, h]
theorem Kept2.put {G : Nat → UInt8} {m : Value} {s : DevS} {ks : List Int} {F : Int → UInt8} {ch ch' : List Row} (h : Kept2 G m s ks F ch) {k : Nat} (hk : k < 64) (U : UInt8) (hb : (bytes U).length = 64)
    (o : OwnM .u8 m (if (k : Int) ∈ ks then ks else ks ++ [(k : Int)]) (numM (fun q => if q = (k : Int) then U else F q)) ch') :
    Kept2 G m (s.put k (bytes U)).burn (if (k : Int) ∈ ks then ks else ks ++ [(k : Int)]) (fun q => if q = (k : Int) then U else F q) ch' := by
  rw [calm (s := s.put k (bytes U)) h.cold]
  have h1 : k < s.now.length := by rw [h.ok.now.1]; exact hk
  have h2 : k < s.loose.length := by rw [h.ok.loose]; exact hk
  refine ⟨h.ok.put hb, h.up, h.cold, o, fun q hq => ?_, h.was, fun q hq => ?_, fun x hx => ?_⟩
  · rw [gotM_set]
    show (s.now.set k (bytes U)).getD q [] = _
    rw [getD_set _ _ _ _ _ h1]
    split
    · rfl
    · exact h.now q hq
  · show (s.loose.set k true).getD q false = _
    rw [getD_set _ _ _ _ _ h2]
    split
    · rename_i hkq; subst hkq; exact (decide_eq_true ((mem_set _ _ _).2 (.inr rfl))).symm
    · rename_i hkq
      rw [h.loose q hq]
      exact decide_eq_decide.2 ⟨fun hm => (mem_set _ _ _).2 (.inl hm), fun hm => ((mem_set _ _ _).1 hm).elim id (fun he => absurd he (by omega))⟩
  · rcases (mem_set _ _ _).1 hx with hx | rfl
    · exact h.keys x hx
    · omega
theorem Kept2.start {m : Value} {F : Int → UInt8} {ch : List Row} (o : OwnM .u8 m [] (numM F) ch) : Kept2 (fun _ => 0) m (DevS.zero 64) [] F ch := by
  refine ⟨DevS.Ok.zero (by decide) (by decide), rfl, rfl, o, fun q hq => ?_, fun q hq => ?_, fun q hq => ?_, fun k hk => by simp at hk⟩
  · show (List.replicate 64 zSec).getD q [] = _
    rw [List.getD_eq_getElem?_getD, List.getElem?_replicate, if_pos hq]; simp [gotM]; rfl
  · show (List.replicate 64 zSec).getD q [] = _
    rw [List.getD_eq_getElem?_getD, List.getElem?_replicate, if_pos hq]; rfl
  · show (List.replicate 64 false).getD q false = _
    rw [List.getD_eq_getElem?_getD, List.getElem?_replicate, if_pos hq]; simp
/-- Flushed, it starts over a new map. -/
theorem Kept2.flush {G : Nat → UInt8} {m m' : Value} {s : DevS} {ks : List Int} {F F' : Int → UInt8} {ch ch' : List Row} (h : Kept2 G m s ks F ch) (o : OwnM .u8 m' [] (numM F') ch') : Kept2 (gotM ks F G) m' (s.flush 64) [] F' ch' := by
  have e1 : s.flush 64 = s.saved 64 := by rw [DevS.flush, if_neg (by simp [h.up]), calm (s := s.saved 64) h.cold]
  rw [e1]
  refine ⟨h.ok.saved, h.up, h.cold, o, fun q hq => ?_, h.now, fun q hq => ?_, fun k hk => by simp at hk⟩
  · rw [show gotM [] F' (gotM ks F G) q = gotM ks F G q from by simp [gotM]]; exact h.now q hq
  · show (List.replicate 64 false).getD q false = _
    rw [List.getD_eq_getElem?_getD, List.getElem?_replicate, if_pos hq]; simp
theorem no_loose {s : DevS} (h : s.loose = List.replicate 64 false) : looseTo s 64 = [] := by unfold looseTo; rw [h]; decide
theorem flush_loose {s : DevS} (hu : s.down = false) (hc : s.fused = false) : looseTo (s.flush 64) 64 = [] := by
  have e1 : s.flush 64 = s.saved 64 := by rw [DevS.flush, if_neg (by simp [hu]), calm (s := s.saved 64) hc]
  rw [e1]; exact no_loose rfl
theorem Kept2.mem {G : Nat → UInt8} {m : Value} {s : DevS} {ks : List Int} {F : Int → UInt8} {ch : List Row} (h : Kept2 G m s ks F ch) (q : Nat) : q ∈ looseTo s 64 ↔ (q : Int) ∈ ks := by
  rw [loose_mem]
  constructor
  · rintro ⟨hq, hl⟩
    rw [h.loose q hq] at hl
    exact of_decide_eq_true hl
  · intro hm
    have hq : q < 64 := by have := h.keys _ hm; omega
    exact ⟨hq, by rw [h.loose q hq]; exact decide_eq_true hm⟩
theorem Kept2.len {G : Nat → UInt8} {m : Value} {s : DevS} {ks : List Int} {F : Int → UInt8} {ch : List Row} (h : Kept2 G m s ks F ch) : (looseTo s 64).length = ks.length := by
  have hnd : ks.Nodup := by obtain ⟨_, _, _, _, _, _, hn⟩ := h.own; exact hn
  have h1 : (ks.map Int.toNat).Nodup := by
    rw [List.nodup_iff_pairwise_ne, List.pairwise_map]
    refine List.Pairwise.imp_of_mem ?_ hnd
    intro a b ha hb hab he
    have := h.keys a ha
    have := h.keys b hb
    exact hab (by omega)
  have := same_len (loose_nodup s 64) h1 (fun x => by
    rw [h.mem]
    constructor
    · intro hx; exact List.mem_map.2 ⟨_, hx, by omega⟩
    · intro hx
      obtain ⟨y, hy, rfl⟩ := List.mem_map.1 hx
      have := h.keys y hy
      rw [Int.toNat_of_nonneg this.1]; exact hy)
  rw [this, List.length_map]
/-- What the crash leaves in a sector that is not loose, and in the k-th loose one. -/
theorem Kept2.gone {G : Nat → UInt8} {m : Value} {s : DevS} {ks : List Int} {F : Int → UInt8} {ch : List Row} (h : Kept2 G m s ks F ch) (keep : List Bool) {q : Nat} (hq : q < 64) (hn : ¬ (q : Int) ∈ ks) : (s.crash 64 keep).now.getD q [] = bytes (G q) := by
  have := kept_now s (looseTo s 64) keep q (looseTo s 64).length (Nat.le_refl _) (fun k _ hk => absurd ((h.mem q).1 (List.mem_of_getElem? hk)) hn)
  rw [show (s.crash 64 keep).now = s.kept (looseTo s 64) keep (looseTo s 64).length from rfl, this, h.now q hq]
  simp [gotM, hn]
theorem Kept2.left {G : Nat → UInt8} {m : Value} {s : DevS} {ks : List Int} {F : Int → UInt8} {ch : List Row} (h : Kept2 G m s ks F ch) (keep : List Bool) {q k : Nat} (hk : (looseTo s 64)[k]? = some q) : (s.crash 64 keep).now.getD q [] = bytes (if keep.getD k false then F (q : Int) else G q) := by
  have hmem := List.mem_of_getElem? hk
  have hq : q < 64 := looseTo_lt hmem
  have hkl : k < (looseTo s 64).length := (List.getElem?_eq_some_iff.1 hk).1
  rw [show (s.crash 64 keep).now = s.kept (looseTo s 64) keep (looseTo s 64).length from rfl]
  cases hb : keep.getD k false with
  | false =>
    rw [kept_was s _ keep 64 q h.ok.now.1 (fun x hx => looseTo_lt hx) _ (Nat.le_refl _) ⟨k, hkl, hk, hb⟩, h.was q hq]
    rfl
  | true =>
    rw [kept_now s _ keep q _ (Nat.le_refl _) (fun k' hk' hq' => by
      have : k' = k := (List.getElem?_inj hk' (loose_nodup s 64)).1 (by rw [hq', hk])
      rw [this]; exact hb), h.now q hq]
    simp [gotM, (h.mem q).1 hmem]
/-- Where each loose sector stands. -/
structure Placed (L : List Nat) (k : Nat) (m : Value) (ks : List Int) (P : Int → Int) (ch : List Row) : Prop where
  own : OwnM .i64 m ks P ch
  keys : ∀ q : Nat, (q : Int) ∈ ks ↔ ∃ j, j < k ∧ L[j]? = some q
  spot : ∀ j q : Nat, j < k → L[j]? = some q → P (q : Int) = (j : Int)
theorem Placed.start {L : List Nat} {m : Value} {P : Int → Int} {ch : List Row} (o : OwnM .i64 m [] P ch) : Placed L 0 m [] P ch :=
  ⟨o, fun q => ⟨fun h => by simp at h, fun ⟨j, h, _⟩ => by omega⟩, fun j q h => by omega⟩
theorem Placed.put {L : List Nat} {k : Nat} {m : Value} {ks : List Int} {P : Int → Int} {ch ch' : List Row} (h : Placed L k m ks P ch) (hL : L.Nodup) {x : Nat} (hx : L[k]? = some x)
    (o : OwnM .i64 m (if (x : Int) ∈ ks then ks else ks ++ [(x : Int)]) (fun q => if q = (x : Int) then (k : Int) else P q) ch') : Placed L (k + 1) m (if (x : Int) ∈ ks then ks else ks ++ [(x : Int)]) (fun q => if q = (x : Int) then (k : Int) else P q) ch' := by
  refine ⟨o, fun q => ?_, fun j q hj hq => ?_⟩
  · rw [mem_set, h.keys]
    constructor
    · rintro (⟨j, hj, hq⟩ | hq)
      · exact ⟨j, by omega, hq⟩
      · obtain rfl : q = x := by omega
        exact ⟨k, by omega, hx⟩
    · rintro ⟨j, hj, hq⟩
      by_cases hjk : j = k
      · subst hjk
        rw [hx] at hq
        exact .inr (congrArg _ (Option.some.inj hq).symm)
      · exact .inl ⟨j, by omega, hq⟩
  · by_cases hjk : j = k
    · subst hjk
      rw [hx] at hq
      simp [Option.some.inj hq]
    · have hne : ¬ (q : Int) = (x : Int) := by
        intro he
        obtain rfl : q = x := by omega
        have hjl : j < L.length := (List.getElem?_eq_some_iff.1 hq).1
        exact hjk ((List.getElem?_inj hjl hL).1 (by rw [hq, hx]))
      simp only [hne, if_false]
      exact h.spot j q (by omega) hq
end Go.Proofs.YtmgpldgldgdenaaDoor
