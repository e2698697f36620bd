/-
  NUMBERS IN BYTES, as the program computes them; a writer's and a reader's rows.
-/
import Derived.Test.YtemdebmfdhamgaaFmtDevDef
namespace Go.Proofs.YtemdebmfdhamgaaFmt
open Go.RowKit

def I64 (n : Int) : Prop := -9223372036854775808 ≤ n ∧ n ≤ 9223372036854775807
def i64v (n : Int) : Value := .int .i64 n
def sx (n : Int) (k : Nat) : Int := (IntKind.i64.wrap (n * 2 ^ (8 * (8 - k)))).fdiv (2 ^ (8 * (8 - k)))
def sizeZ (n : Int) : Nat :=
  if n = 0 then 0 else if n = sx n 1 then 1 else if n = sx n 2 then 2 else if n = sx n 3 then 3 else if n = sx n 4 then 4 else if n = sx n 5 then 5 else if n = sx n 6 then 6 else if n = sx n 7 then 7 else 8
def byteZ (n : Int) (i : Nat) : UInt8 := UInt8.ofNat ((n.fdiv (2 ^ (8 * i))) % 256).toNat
def encZ (n : Int) : List UInt8 := UInt8.ofNat (sizeZ n) :: (List.range (sizeZ n)).map (byteZ n)
def encs (ns : List Int) : List UInt8 := (ns.map encZ).flatten
def accZ (bs : List UInt8) (m : Nat) : Int := (List.range m).foldl (fun x i => bits .or .i64 x (IntKind.i64.wrap (((bs.getD (1 + i) 0).toNat : Int) * 2 ^ (8 * i)))) 0
def numZ (bs : List UInt8) (k : Nat) : Int := if k = 0 then 0 else sx (accZ bs k) k
def getZ (bs : List UInt8) : Option (Int × Nat) :=
  if bs.length = 0 then none else if 8 < (bs.getD 0 0).toNat then none else if bs.length ≤ (bs.getD 0 0).toNat then none
  else if sizeZ (numZ bs (bs.getD 0 0).toNat) = (bs.getD 0 0).toNat then some (numZ bs (bs.getD 0 0).toNat, (bs.getD 0 0).toNat + 1) else none

theorem sizeZ_le (n : Int) : sizeZ n ≤ 8 := by
  unfold sizeZ
  repeat' split
  all_goals omega
theorem sizeZ_eq {n : Int} {k : Nat} (h0 : n ≠ 0) (h1 : 1 ≤ k) (h8 : k ≤ 8) (hlt : ∀ j, 1 ≤ j → j < k → n ≠ sx n j) (he : k = 8 ∨ n = sx n k) : sizeZ n = k := by
  have hk : k = 1 ∨ k = 2 ∨ k = 3 ∨ k = 4 ∨ k = 5 ∨ k = 6 ∨ k = 7 ∨ k = 8 := by omega
  have h7 : k = 8 ∨ (k ≠ 8 ∧ n = sx n k) := by
    rcases he with h | h
    · exact .inl h
    · by_cases hk8 : k = 8
      · exact .inl hk8
      · exact .inr ⟨hk8, h⟩
  unfold sizeZ
  rw [if_neg h0]
  rcases hk with rfl | rfl | rfl | rfl | rfl | rfl | rfl | rfl
  · rw [if_pos (by simpa using h7)]
  · rw [if_neg (hlt 1 (by omega) (by omega)), if_pos (by simpa using h7)]
  · rw [if_neg (hlt 1 (by omega) (by omega)), if_neg (hlt 2 (by omega) (by omega)), if_pos (by simpa using h7)]
  · rw [if_neg (hlt 1 (by omega) (by omega)), if_neg (hlt 2 (by omega) (by omega)), if_neg (hlt 3 (by omega) (by omega)), if_pos (by simpa using h7)]
  · rw [if_neg (hlt 1 (by omega) (by omega)), if_neg (hlt 2 (by omega) (by omega)), if_neg (hlt 3 (by omega) (by omega)), if_neg (hlt 4 (by omega) (by omega)), if_pos (by simpa using h7)]
  · rw [if_neg (hlt 1 (by omega) (by omega)), if_neg (hlt 2 (by omega) (by omega)), if_neg (hlt 3 (by omega) (by omega)), if_neg (hlt 4 (by omega) (by omega)), if_neg (hlt 5 (by omega) (by omega)), if_pos (by simpa using h7)]
  · rw [if_neg (hlt 1 (by omega) (by omega)), if_neg (hlt 2 (by omega) (by omega)), if_neg (hlt 3 (by omega) (by omega)), if_neg (hlt 4 (by omega) (by omega)), if_neg (hlt 5 (by omega) (by omega)), if_neg (hlt 6 (by omega) (by omega)), if_pos (by simpa using h7)]
  · rw [if_neg (hlt 1 (by omega) (by omega)), if_neg (hlt 2 (by omega) (by omega)), if_neg (hlt 3 (by omega) (by omega)), if_neg (hlt 4 (by omega) (by omega)), if_neg (hlt 5 (by omega) (by omega)), if_neg (hlt 6 (by omega) (by omega)), if_neg (hlt 7 (by omega) (by omega))]
theorem shp (n : Int) (k : Nat) (hk : k ≤ 8) : IntKind.i64.wrap (n * 2 ^ min (8 * (8 - (k : Int))).toNat 64) = IntKind.i64.wrap (n * 2 ^ (8 * (8 - k))) := by
  rw [show min (8 * (8 - (k : Int))).toNat 64 = 8 * (8 - k) by omega]
theorem shq (n : Int) (k : Nat) (hk : k ≤ 8) : (IntKind.i64.wrap (n * 2 ^ (8 * (8 - k)))).fdiv (2 ^ min (8 * (8 - (k : Int))).toNat 64) = sx n k := by
  rw [show min (8 * (8 - (k : Int))).toNat 64 = 8 * (8 - k) by omega]; rfl
theorem shb (n : Int) (i : Nat) (hi : i < 8) : n.fdiv (2 ^ min (8 * (i : Int)).toNat 64) = n.fdiv (2 ^ (8 * i)) := by
  rw [show min (8 * (i : Int)).toNat 64 = 8 * i by omega]
theorem shl8 (x : Int) (i : Nat) (hi : i < 8) : IntKind.i64.wrap (x * 2 ^ min (8 * (i : Int)).toNat 64) = IntKind.i64.wrap (x * 2 ^ (8 * i)) := by
  rw [show min (8 * (i : Int)).toNat 64 = 8 * i by omega]
theorem wrap_u8 (x : Int) : IntKind.u8.wrap x = ((UInt8.ofNat (x % 256).toNat).toNat : Int) := by
  have h1 : IntKind.u8.wrap x = x % 256 := by simp [IntKind.wrap, IntKind.bits, IntKind.signed]
  rw [h1, UInt8.toNat_ofNat']
  omega
theorem wrap_u8_nat (k : Nat) (hk : k ≤ 8) : IntKind.u8.wrap (k : Int) = ((UInt8.ofNat k).toNat : Int) := by
  rw [wrap_u8]
  congr 2
  rw [show ((k : Int) % 256).toNat = k by omega]
theorem encZ_len (n : Int) : (encZ n).length = sizeZ n + 1 := by simp [encZ]
theorem encs_len (ns : List Int) : (encs ns).length ≤ 9 * ns.length := by
  induction ns with
  | nil => simp [encs]
  | cons n r ih =>
    have h1 : encs (n :: r) = encZ n ++ encs r := by simp [encs]
    have := sizeZ_le n
    rw [h1, List.length_append, encZ_len, List.length_cons]
    omega
theorem encs_succ (ns : List Int) (i : Nat) (hi : i < ns.length) : encs (ns.take (i + 1)) = encs (ns.take i) ++ encZ (ns.getD i 0) := by
  have : ns.take (i + 1) = ns.take i ++ [ns.getD i 0] := by
    rw [List.take_add_one]
    simp [List.getD, List.getElem?_eq_getElem hi]
  rw [this]
  simp [encs]

/-! ### Rows -/
def OwnB (v : Value) (bs : List UInt8) (ch : List Row) : Prop := OwnS 5 1 v bs.length (bs.map u8v) ch
theorem OwnB.nil : OwnB (.slice none 0 0) [] [] := OwnS.nil
theorem OwnS.one {t : TypeId} {sz : Nat} {v : Value} {m : Nat} {xs : List Value} {ch : List Row} (o : OwnS t sz v m xs ch) : v.oneCell' = true := by
  obtain ⟨A, cp, rfl, _, _⟩ := o.val
  rfl
theorem OwnB.app {v : Value} {m k : Nat} {bs cs : List UInt8} {ch : List Row} (h : OwnS 5 1 v (m + k) (bs.map u8v ++ cs.map u8v) ch) (hm : m = bs.length) (hk : k = cs.length) : OwnB v (bs ++ cs) ch := by
  subst hm hk
  unfold OwnB
  rw [List.length_append, List.map_append]
  exact h
theorem Src.cut {W : World} {B : Nat} {src : List Row} {A : Option Addr} {xs : List Value} (k : Src W B src A xs) (i : Nat) : Src W B src (A.map (·.add i)) (xs.drop i) := by
  rcases k with rfl | ⟨a, rfl, ⟨hb, hx⟩ | ⟨b, o, t, l, rfl, hm, hx⟩⟩
  · left; simp
  · exact .inr ⟨_, rfl, .inl ⟨by rw [block_of_add]; exact hb, fun j v hj => by rw [add_of_add]; exact hx (i + j) v (by rwa [List.getElem?_drop] at hj)⟩⟩
  · exact .inr ⟨_, rfl, .inr ⟨b, o + i, t, l, by simp [Addr.add_mid], hm, fun j v hj => by rw [Nat.add_assoc]; exact hx (i + j) v (by rwa [List.getElem?_drop] at hj)⟩⟩
/-- A reader's slice: these bytes are left. -/
def RdS (W : World) (B : Nat) (v : Value) (bs : List UInt8) (ch : List Row) : Prop := ∃ A cp, v = .slice A bs.length cp ∧ bs.length ≤ cp ∧ Src W B ch A (bs.map u8v)
theorem RdS.of {W : World} {B : Nat} {v : Value} {bs : List UInt8} {ch : List Row} (o : OwnB v bs ch) : RdS W B v bs ch := by
  obtain ⟨A, cp, rfl, _, hc⟩ := OwnS.val o
  exact ⟨A, cp, rfl, hc, OwnS.src o⟩
theorem RdS.cut {W : World} {B : Nat} {A : Option Addr} {cp : Nat} {bs : List UInt8} {ch : List Row} (hs : Src W B ch A (bs.map u8v)) (hc : bs.length ≤ cp) (i : Nat) (hi : i ≤ bs.length) :
    RdS W B (.slice (cutA A cp i 1) (bs.length - i) (cp - i)) (bs.drop i) ch := by
  refine ⟨cutA A cp i 1, cp - i, by rw [List.length_drop], by rw [List.length_drop]; omega, ?_⟩
  unfold cutA
  split
  · left
    rw [List.drop_eq_nil_of_le (by omega)]; rfl
  · rw [Nat.mul_one, List.map_drop]
    exact hs.cut i
end Go.Proofs.YtemdebmfdhamgaaFmt
