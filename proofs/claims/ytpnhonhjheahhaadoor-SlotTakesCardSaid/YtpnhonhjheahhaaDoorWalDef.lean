/-
  A LOG AS PLAIN VALUES: its records in bytes, how they are read; bytes written sector by sector. The plain law: no program in sight.
-/
import Derived.Test.YtpnhonhjheahhaaDoorSlot2
import Derived.Test.YtpnhonhjheahhaaDoorLooseDef
namespace Go.Proofs.YtpnhonhjheahhaaDoor
open Go.RowKit
/-- m sectors from number i on. -/
def secsC (N : Nat → List UInt8) (i m : Nat) : List UInt8 := ((List.range m).map (fun k => N (i + k))).flatten
theorem secsC_succ (N : Nat → List UInt8) (i m : Nat) : secsC N i (m + 1) = secsC N i m ++ N (i + m) := by simp [secsC, List.range_succ]
theorem secsC_len (N : Nat → List UInt8) (i : Nat) : ∀ m, (∀ k, k < m → (N (i + k)).length = 64) → (secsC N i m).length = 64 * m
  | 0, _ => rfl
  | m + 1, h => by rw [secsC_succ, List.length_append, secsC_len N i m (fun k hk => h k (by omega)), h m (by omega)]; omega
/-- A record in bytes. -/
def recB (b : List UInt8) : List UInt8 := UInt8.ofNat b.length :: UInt8.ofNat (b.length / 256) :: b
def recsB (l : List (List UInt8)) : List UInt8 := (l.map recB).flatten
/-- How a row of records is read. -/
def recsGet : Nat → List UInt8 → Option (List (List UInt8))
  | 0, _ => none
  | k + 1, b =>
    if b.length = 0 then some [] else if b.length < 2 then none
    else if (b.getD 0 0).toNat + (b.getD 1 0).toNat * 256 < 1 ∨ 1000 < (b.getD 0 0).toNat + (b.getD 1 0).toNat * 256 ∨ b.length - 2 < (b.getD 0 0).toNat + (b.getD 1 0).toNat * 256 then none
    else (recsGet k (b.drop (2 + ((b.getD 0 0).toNat + (b.getD 1 0).toNat * 256)))).map (((b.drop 2).take ((b.getD 0 0).toNat + (b.getD 1 0).toNat * 256)) :: ·)
def okRec (b : List UInt8) : Prop := 1 ≤ b.length ∧ b.length ≤ 1000
theorem recB_len (b : List UInt8) : (recB b).length = b.length + 2 := by simp [recB]
theorem recsB_cons (b : List UInt8) (l : List (List UInt8)) : recsB (b :: l) = recB b ++ recsB l := by simp [recsB]
theorem recsB_app (l m : List (List UInt8)) : recsB (l ++ m) = recsB l ++ recsB m := by simp [recsB]
theorem recsB_one (b : List UInt8) : recsB [b] = recB b := by simp [recsB]
theorem recN (b r : List UInt8) (h : okRec b) : ((recB b ++ r).getD 0 0).toNat + ((recB b ++ r).getD 1 0).toNat * 256 = b.length := by
  have h1 := h.2
  simp only [recB, List.cons_append, List.getD_cons_zero, List.getD_cons_succ, UInt8.toNat_ofNat']
  omega
theorem recsGet_B : ∀ (l : List (List UInt8)) (k : Nat), l.length < k → (∀ b ∈ l, okRec b) → recsGet k (recsB l) = some l
  | [], k + 1, _, _ => by simp [recsGet, recsB]
  | [], 0, h, _ => by simp at h
  | b :: l, k + 1, h, hl => by
    have hb := hl b (by simp)
    have ih := recsGet_B l k (by simp at h; omega) (fun x hx => hl x (by simp [hx]))
    have hN := recN b (recsB l) hb
    have h1 := hb.1
    have h2 := hb.2
    have hlen : (recB b ++ recsB l).length = b.length + 2 + (recsB l).length := by rw [List.length_append, recB_len]
    rw [recsB_cons, recsGet, hN, if_neg (by omega), if_neg (by omega), if_neg (by omega)]
    have hd : (recB b ++ recsB l).drop (2 + b.length) = recsB l := by
      rw [List.drop_append, List.drop_eq_nil_of_le (by rw [recB_len]; omega), recB_len, show 2 + b.length - (b.length + 2) = 0 by omega]; simp
    have ht : ((recB b ++ recsB l).drop 2).take b.length = b := by simp [recB]
    rw [hd, ih, ht]; rfl
  | _ :: _, 0, h, _ => by simp at h
/-- More rounds tell the same. -/
theorem recsGet_mono : ∀ (k k' : Nat) (b : List UInt8), b.length < k → b.length < k' → recsGet k b = recsGet k' b
  | 0, _, _, h, _ => by omega
  | _ + 1, 0, _, _, h => by omega
  | k + 1, k' + 1, b, h, h' => by
    simp only [recsGet]
    split
    · rfl
    · split
      · rfl
      · split
        · rfl
        · rw [recsGet_mono k k' _ (by rw [List.length_drop]; omega) (by rw [List.length_drop]; omega)]
def recsOf (b : List UInt8) : Option (List (List UInt8)) := recsGet (b.length + 1) b
def recLen (b : List UInt8) : Nat := (b.getD 0 0).toNat + (b.getD 1 0).toNat * 256
theorem recsOf_nil : recsOf [] = some [] := by simp [recsOf, recsGet]
theorem recsOf_step {b : List UInt8} (h0 : 2 ≤ b.length) (h1 : 1 ≤ recLen b) (h2 : recLen b ≤ 1000) (h3 : recLen b ≤ b.length - 2) : recsOf b = (recsOf (b.drop (2 + recLen b))).map ((b.drop 2).take (recLen b) :: ·) := by
  unfold recsOf
  rw [recsGet, if_neg (by omega), if_neg (by omega)]
  unfold recLen at *
  rw [if_neg (by omega), recsGet_mono _ ((b.drop (2 + ((b.getD 0 0).toNat + (b.getD 1 0).toNat * 256))).length + 1) _ (by rw [List.length_drop]; omega) (by omega)]
theorem recsOf_bad {b : List UInt8} (h0 : b.length ≠ 0) (h : b.length < 2 ∨ recLen b < 1 ∨ 1000 < recLen b ∨ b.length - 2 < recLen b) : recsOf b = none := by
  unfold recsOf
  rw [recsGet, if_neg h0]
  unfold recLen at h
  split
  · rfl
  · rw [if_pos (by omega)]
theorem recsOf_B (l : List (List UInt8)) (hl : ∀ b ∈ l, okRec b) : recsOf (recsB l) = some l := by
  have h1 : l.length ≤ (recsB l).length := by
    induction l with
    | nil => simp
    | cons b r ih => rw [recsB_cons, List.length_append, recB_len, List.length_cons]; have := ih (fun x hx => hl x (by simp [hx])); omega
  exact recsGet_B l _ (by omega) hl
/-- The ring's first bytes. -/
def bytesC (N : Nat → List UInt8) (m : Nat) : List UInt8 := (secsC N 2 ((m + 63) / 64)).take m
def ringN (n : Nat) : Nat := (n / 2 - 2) * 64
/-- Bytes written sector by sector from number i on: the last one filled up with noughts; it ends at the first error. -/
def padS (b : List UInt8) : List UInt8 := b.take 64 ++ List.replicate (64 - b.length) 0
def wrS (n : Nat) : Nat → DevS → Nat → List UInt8 → Int × DevS
  | 0, d, _, _ => (0, d)
  | k + 1, d, i, b => if b.length = 0 then (0, d) else if d.err n (i : Int) 64 = 0 then wrS n k (d.write n (i : Int) (padS b)) (i + 1) (b.drop 64) else (d.err n (i : Int) 64, d)
theorem padS_len (b : List UInt8) : (padS b).length = 64 := by simp [padS]; omega
theorem wrS_mono (n : Nat) : ∀ (k k' : Nat) (d : DevS) (i : Nat) (b : List UInt8), b.length < k → b.length < k' → wrS n k d i b = wrS n k' d i b
  | 0, _, _, _, _, h, _ => by omega
  | _ + 1, 0, _, _, _, _, h => by omega
  | k + 1, k' + 1, d, i, b, h, h' => by
    simp only [wrS]
    split
    · rfl
    · split
      · exact wrS_mono n k k' _ _ _ (by rw [List.length_drop]; omega) (by rw [List.length_drop]; omega)
      · rfl
def wrO (n : Nat) (d : DevS) (i : Nat) (b : List UInt8) : Int × DevS := wrS n (b.length + 1) d i b
theorem wrO_nil (n : Nat) (d : DevS) (i : Nat) : wrO n d i [] = (0, d) := by simp [wrO, wrS]
theorem wrO_ok {n : Nat} {d : DevS} {i : Nat} {b : List UInt8} (h0 : b.length ≠ 0) (he : d.err n (i : Int) 64 = 0) : wrO n d i b = wrO n (d.write n (i : Int) (padS b)) (i + 1) (b.drop 64) := by
  unfold wrO
  rw [wrS, if_neg h0, if_pos he, wrS_mono n _ ((b.drop 64).length + 1) _ _ _ (by rw [List.length_drop]; omega) (by omega)]
theorem wrO_no {n : Nat} {d : DevS} {i : Nat} {b : List UInt8} (h0 : b.length ≠ 0) (he : d.err n (i : Int) 64 ≠ 0) : wrO n d i b = (d.err n (i : Int) 64, d) := by
  unfold wrO
  rw [wrS, if_neg h0, if_neg he]
def headW (d : DevS) (used : Nat) (b : List UInt8) : List UInt8 := (d.N (2 + used / 64)).take (used % 64) ++ b
def writeL (n : Nat) (d : DevS) (used : Nat) (b : List UInt8) : Int × DevS :=
  if (wrO n d (2 + used / 64) (headW d used b)).1 = 0 then ((wrO n d (2 + used / 64) (headW d used b)).2.flushE, (wrO n d (2 + used / 64) (headW d used b)).2.flush n) else wrO n d (2 + used / 64) (headW d used b)
/-- A log's numbers. -/
structure LogV where
  area : Int
  length : Int
  used : Nat
  serial : Int
  lbad : Bool
  sbad : Bool
/-- A log lets last what it is to be: the error, the device, the log. -/
def setsL (n : Nat) (d : DevS) (L : LogV) (area length : Int) (used : Nat) : Int × DevS × LogV :=
  if (setS n d L.serial [area, length, (used : Int)]).1 = 0 then (0, (setS n d L.serial [area, length, (used : Int)]).2, { L with area := area, length := length, used := used, serial := L.serial + 1 })
  else ((setS n d L.serial [area, length, (used : Int)]).1, (setS n d L.serial [area, length, (used : Int)]).2, { L with sbad := true })
def resetL (n : Nat) (d : DevS) (L : LogV) (area length : Int) : Int × DevS × LogV :=
  ((setsL n d L area length 0).1, (setsL n d L area length 0).2.1, { (setsL n d L area length 0).2.2 with lbad := decide ((setsL n d L area length 0).1 ≠ 0) })
def appendL (n : Nat) (d : DevS) (L : LogV) (b : List UInt8) : Int × DevS × LogV :=
  if b.length < 1 ∨ 1000 < b.length then (1, d, L)
  else if (ringN n : Int) - (L.used : Int) < ((b.length + 2 : Nat) : Int) then (5, d, L)
  else if (writeL n d L.used (recB b)).1 = 0 then
    ((setsL n (writeL n d L.used (recB b)).2 L L.area L.length (L.used + b.length + 2)).1, (setsL n (writeL n d L.used (recB b)).2 L L.area L.length (L.used + b.length + 2)).2.1,
      { (setsL n (writeL n d L.used (recB b)).2 L L.area L.length (L.used + b.length + 2)).2.2 with lbad := decide ((setsL n (writeL n d L.used (recB b)).2 L L.area L.length (L.used + b.length + 2)).1 ≠ 0) })
  else ((writeL n d L.used (recB b)).1, (writeL n d L.used (recB b)).2, { L with lbad := true })
end Go.Proofs.YtpnhonhjheahhaaDoor
