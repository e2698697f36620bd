/-
  READING ANY BYTES: what a number's reading leaves; a slice cut from its head. No program in sight.
-/
import Derived.Test.YtpnhonhjheahhaaDoorBinLaw
namespace Go.Proofs.YtpnhonhjheahhaaDoor
open Go.RowKit
theorem sx_fit {n : Int} (hn : I64 n) (k : Nat) (h1 : 1 ≤ k) (h7 : k ≤ 7) : n = sx n k ↔ Fits n k := by
  obtain ⟨f1, f2, f3, f4, f5, f6, f7⟩ := sx_fits hn
  have h : k = 1 ∨ k = 2 ∨ k = 3 ∨ k = 4 ∨ k = 5 ∨ k = 6 ∨ k = 7 := by omega
  rcases h with rfl | rfl | rfl | rfl | rfl | rfl | rfl
  · exact f1
  · exact f2
  · exact f3
  · exact f4
  · exact f5
  · exact f6
  · exact f7
theorem sizeZ_first {n : Int} (hn : I64 n) {k : Nat} (h0 : n ≠ 0) (h1 : 1 ≤ k) (h8 : k ≤ 8) (hlt : ∀ j, 1 ≤ j → j < k → ¬ Fits n j) (he : k = 8 ∨ Fits n k) : sizeZ n = k := by
  refine sizeZ_eq h0 h1 h8 (fun j hj hjk he => hlt j hj hjk ((sx_fit hn j hj (by omega)).1 he)) ?_
  by_cases hk : k = 8
  · exact .inl hk
  · rcases he with h | h
    · exact .inl h
    · exact .inr ((sx_fit hn k h1 (by omega)).2 h)
theorem fits_size' {n : Int} (hn : I64 n) : n = 0 ∨ sizeZ n = 8 ∨ (1 ≤ sizeZ n ∧ Fits n (sizeZ n)) := by
  rcases fits_size hn with h | h | h
  · exact .inl (sizeZ_zero h)
  · exact .inr (.inl h)
  · by_cases h0 : sizeZ n = 0
    · exact .inl (sizeZ_zero h0)
    · exact .inr (.inr ⟨by omega, h⟩)
theorem pow_step (k : Nat) (h : 1 ≤ k) : (2 : Int) ^ (8 * (k + 1) - 1) = 256 * 2 ^ (8 * k - 1) := by
  rw [show 8 * (k + 1) - 1 = (8 * k - 1) + 8 by omega, Int.pow_add]
  omega
/-- What is one byte longer than it must be. -/
def longZ (n : Int) : List UInt8 := UInt8.ofNat (sizeZ n + 1) :: ((List.range (sizeZ n)).map (byteZ n) ++ [if n < 0 then 255 else 0])
theorem pad_byte {n : Int} (hn : I64 n) (h8 : sizeZ n ≠ 8) : (if n < 0 then (255 : UInt8) else 0) = byteZ n (sizeZ n) := by
  have hv := byteZ_val n (sizeZ n)
  have hf : -(2 ^ (8 * sizeZ n) : Int) ≤ n ∧ n < 2 ^ (8 * sizeZ n) := by
    rcases fits_size' hn with h | h | ⟨h1, h2⟩
    · subst h; exact ⟨by decide, by decide⟩
    · exact absurd h h8
    · obtain ⟨ha, hb⟩ := h2
      have hp : (2 : Int) ^ (8 * sizeZ n) = 2 * 2 ^ (8 * sizeZ n - 1) := by
        rw [show 8 * sizeZ n = (8 * sizeZ n - 1) + 1 by omega, Int.pow_succ]
        simp; omega
      have hq : (0 : Int) < 2 ^ (8 * sizeZ n - 1) := Int.pow_pos (by decide)
      exact ⟨by rw [hp]; omega, by rw [hp]; omega⟩
  have hq : (0 : Int) < 2 ^ (8 * sizeZ n) := Int.pow_pos (by decide)
  apply UInt8.toNat_inj.1
  have hgoal : (((if n < 0 then (255 : UInt8) else 0).toNat : Nat) : Int) = ((byteZ n (sizeZ n)).toNat : Int) := by
    rw [hv]
    by_cases hneg : n < 0
    · have : n / 2 ^ (8 * sizeZ n) = -1 := by
        have e1 := Int.add_mul_ediv_right n 1 (show (2 : Int) ^ (8 * sizeZ n) ≠ 0 by omega)
        have e2 : (n + 1 * 2 ^ (8 * sizeZ n)) / 2 ^ (8 * sizeZ n) = 0 := Int.ediv_eq_zero_of_lt (by omega) (by omega)
        omega
      rw [if_pos hneg, this]; rfl
    · have : n / 2 ^ (8 * sizeZ n) = 0 := Int.ediv_eq_zero_of_lt (by omega) hf.2
      rw [if_neg hneg, this]; rfl
  exact_mod_cast hgoal
theorem longZ_eq {n : Int} (hn : I64 n) (h8 : sizeZ n ≠ 8) : longZ n = UInt8.ofNat (sizeZ n + 1) :: (List.range (sizeZ n + 1)).map (byteZ n) := by
  rw [longZ, pad_byte hn h8, List.range_succ, List.map_append]
  rfl
theorem sumZ_long (n : Int) (k : Nat) (hk : k ≤ 8) (r : List UInt8) (x : UInt8) : ∀ m, m ≤ k → (sumZ (x :: (List.range k).map (byteZ n) ++ r) m : Int) = n % 2 ^ (8 * m)
  | 0, _ => by simp [sumZ]
  | m + 1, hm => by
    have hget : (x :: (List.range k).map (byteZ n) ++ r).getD (1 + m) 0 = byteZ n m := by
      rw [Nat.add_comm, List.getD_eq_getElem?_getD, List.getElem?_append_left (by simp; omega)]
      simp [show m < k by omega]
    rw [sumZ_succ, hget, Int.natCast_add, sumZ_long n k hk r x m (by omega), Int.natCast_mul, byteZ_val, ← mod_step n m (by omega)]
    simp
theorem getZ_long {n : Int} (hn : I64 n) (h8 : sizeZ n ≠ 8) : getZ (longZ n) = none := by
  have hz := sizeZ_le n
  rw [longZ_eq hn h8]
  have hh : ((UInt8.ofNat (sizeZ n + 1) :: (List.range (sizeZ n + 1)).map (byteZ n)).getD 0 0).toNat = sizeZ n + 1 := by
    show (UInt8.ofNat (sizeZ n + 1)).toNat = _
    rw [UInt8.toNat_ofNat']
    omega
  have hnum : numZ (UInt8.ofNat (sizeZ n + 1) :: (List.range (sizeZ n + 1)).map (byteZ n)) (sizeZ n + 1) = n := by
    unfold numZ
    rw [if_neg (by omega), accZ_sum _ _ (by omega)]
    have hs := sumZ_long n (sizeZ n + 1) (by omega) [] (UInt8.ofNat (sizeZ n + 1)) (sizeZ n + 1) (Nat.le_refl _)
    rw [List.append_nil] at hs
    rw [hs]
    refine sx_mod hn _ (by omega) (by omega) ?_
    by_cases h7 : sizeZ n + 1 = 8
    · exact .inl h7
    · refine .inr ?_
      rcases fits_size' hn with h | h | ⟨h1, ha, hb⟩
      · subst h; exact ⟨by decide, by decide⟩
      · exact absurd h h8
      · have hp := pow_step (sizeZ n) h1
        have hq : (0 : Int) < 2 ^ (8 * sizeZ n - 1) := Int.pow_pos (by decide)
        exact ⟨by rw [hp]; omega, by rw [hp]; omega⟩
  have hl : (UInt8.ofNat (sizeZ n + 1) :: (List.range (sizeZ n + 1)).map (byteZ n)).length = sizeZ n + 2 := by simp
  unfold getZ
  rw [hh, hnum, if_neg (by omega), if_neg (by omega), if_neg (by omega), if_neg (by omega)]
end Go.Proofs.YtpnhonhjheahhaaDoor

namespace Go.Proofs.YtpnhonhjheahhaaDoor
open Go.RowKit
/-- What stands at the top of the document's loop, j bytes being written. -/
def stopZ (n : Int) (j : Nat) : Bool :=
  (decide (n / 2 ^ (8 * j) = 0) && (decide (j = 0) || decide ((byteZ n (j - 1)).toNat < 128))) || (decide (n / 2 ^ (8 * j) = -1) && decide (0 < j) && decide (128 ≤ (byteZ n (j - 1)).toNat))
theorem stopZ_zero (n : Int) : stopZ n 0 = true ↔ n = 0 := by simp [stopZ]
theorem stopZ_fits (n : Int) (j : Nat) (h1 : 1 ≤ j) (h8 : j ≤ 8) : stopZ n j = true ↔ Fits n j := by
  have hv := byteZ_val n (j - 1)
  have e : stopZ n j = true ↔ (n / 2 ^ (8 * j) = 0 ∧ (byteZ n (j - 1)).toNat < 128) ∨ (n / 2 ^ (8 * j) = -1 ∧ 128 ≤ (byteZ n (j - 1)).toNat) := by
    simp [stopZ, show j ≠ 0 by omega, show 0 < j by omega]
  rw [e, Fits]
  generalize (byteZ n (j - 1)).toNat = y at *
  have h : j = 1 ∨ j = 2 ∨ j = 3 ∨ j = 4 ∨ j = 5 ∨ j = 6 ∨ j = 7 ∨ j = 8 := by omega
  rcases h with rfl | rfl | rfl | rfl | rfl | rfl | rfl | rfl
  · simp only [show (2 : Int) ^ (8 * 1) = 256 by decide, show (2 : Int) ^ (8 * 1 - 1) = 128 by decide, show (2 : Int) ^ (8 * (1 - 1)) = 1 by decide] at hv ⊢; omega
  · simp only [show (2 : Int) ^ (8 * 2) = 65536 by decide, show (2 : Int) ^ (8 * 2 - 1) = 32768 by decide, show (2 : Int) ^ (8 * (2 - 1)) = 256 by decide] at hv ⊢; omega
  · simp only [show (2 : Int) ^ (8 * 3) = 16777216 by decide, show (2 : Int) ^ (8 * 3 - 1) = 8388608 by decide, show (2 : Int) ^ (8 * (3 - 1)) = 65536 by decide] at hv ⊢; omega
  · simp only [show (2 : Int) ^ (8 * 4) = 4294967296 by decide, show (2 : Int) ^ (8 * 4 - 1) = 2147483648 by decide, show (2 : Int) ^ (8 * (4 - 1)) = 16777216 by decide] at hv ⊢; omega
  · simp only [show (2 : Int) ^ (8 * 5) = 1099511627776 by decide, show (2 : Int) ^ (8 * 5 - 1) = 549755813888 by decide, show (2 : Int) ^ (8 * (5 - 1)) = 4294967296 by decide] at hv ⊢; omega
  · simp only [show (2 : Int) ^ (8 * 6) = 281474976710656 by decide, show (2 : Int) ^ (8 * 6 - 1) = 140737488355328 by decide, show (2 : Int) ^ (8 * (6 - 1)) = 1099511627776 by decide] at hv ⊢; omega
  · simp only [show (2 : Int) ^ (8 * 7) = 72057594037927936 by decide, show (2 : Int) ^ (8 * 7 - 1) = 36028797018963968 by decide, show (2 : Int) ^ (8 * (7 - 1)) = 281474976710656 by decide] at hv ⊢; omega
  · simp only [show (2 : Int) ^ (8 * 8) = 18446744073709551616 by decide, show (2 : Int) ^ (8 * 8 - 1) = 9223372036854775808 by decide, show (2 : Int) ^ (8 * (8 - 1)) = 72057594037927936 by decide] at hv ⊢; omega
theorem fits8 {n : Int} (hn : I64 n) : Fits n 8 := by
  obtain ⟨h1, h2⟩ := hn
  simp only [Fits, show (2 : Int) ^ (8 * 8 - 1) = 9223372036854775808 by decide]
  omega
/-- It stops behind as many bytes as the number takes. -/
theorem stop_size {n : Int} (hn : I64 n) {j : Nat} (h8 : j ≤ 8) (hlt : ∀ i, i < j → stopZ n i = false) (hs : stopZ n j = true) : sizeZ n = j := by
  rcases Nat.eq_zero_or_pos j with rfl | hj
  · rw [(stopZ_zero n).1 hs]; rfl
  · have h0 : n ≠ 0 := fun h => by
      have := hlt 0 hj
      rw [(stopZ_zero n).2 h] at this
      cases this
    refine sizeZ_first hn h0 hj h8 (fun i h1 h2 hf => ?_) (.inr ((stopZ_fits n j hj h8).1 hs))
    have := hlt i h2
    rw [(stopZ_fits n i h1 (by omega)).2 hf] at this
    cases this
theorem shr8 (n : Int) (j : Nat) : (n / 2 ^ (8 * j)).fdiv (2 ^ min (8 : Int).toNat 64) = n / 2 ^ (8 * (j + 1)) := by
  rw [show min (8 : Int).toNat 64 = 8 from rfl, Int.fdiv_eq_ediv_of_nonneg _ (by decide), show 8 * (j + 1) = 8 * j + 8 by omega, Int.pow_add, Int.ediv_ediv, if_neg (fun h => absurd h.1 (Int.not_lt.2 (Int.pow_nonneg (by decide)))), Int.sub_zero]
theorem and255' (x y : Int) (hy : y = 255) : IntKind.u8.wrap (bits .and .i64 x y) = IntKind.u8.wrap x := by
  have e1 : (BitVec.ofInt 64 x &&& BitVec.ofInt 64 y).toNat = (x % 18446744073709551616).toNat % 256 := by
    have h255 : (y % 18446744073709551616).toNat = 2 ^ 8 - 1 := by rw [hy]; decide
    rw [BitVec.toNat_and, bv_of, bv_of, h255, Nat.and_two_pow_sub_one_eq_mod]
  show IntKind.u8.wrap (IntKind.i64.wrap (((BitVec.ofInt 64 x &&& BitVec.ofInt 64 y).toNat : Nat) : Int)) = _
  rw [e1, wrap_u8, wrap_u8, wrap_i64]
  have hA : ((((x % 18446744073709551616).toNat % 256 : Nat) : Int) + 9223372036854775808) % 18446744073709551616 - 9223372036854775808 = x % 256 := by omega
  rw [hA]
  have hB : x % 256 % 256 = x % 256 := by omega
  rw [hB]
theorem and255 (x : Int) : IntKind.u8.wrap (bits .and .i64 x 255) = IntKind.u8.wrap x := and255' x 255 rfl
end Go.Proofs.YtpnhonhjheahhaaDoor

namespace Go.Proofs.YtpnhonhjheahhaaDoor
open Go.RowKit
/-- The top j of k bytes, the greatest first. -/
def hiZ (bs : List UInt8) (k : Nat) : Nat → Nat
  | 0 => 0
  | j + 1 => hiZ bs k j * 256 + (bs.getD (k - j) 0).toNat
theorem hiZ_sum (bs : List UInt8) (k : Nat) : ∀ j, j ≤ k → sumZ bs k = hiZ bs k j * 2 ^ (8 * (k - j)) + sumZ bs (k - j)
  | 0, _ => by simp [hiZ]
  | j + 1, h => by
    have ih := hiZ_sum bs k j (by omega)
    have e1 : k - j = (k - (j + 1)) + 1 := by omega
    have e2 : (2 : Nat) ^ (8 * (k - j)) = 256 * 2 ^ (8 * (k - (j + 1))) := by
      rw [e1, show 8 * (k - (j + 1) + 1) = 8 + 8 * (k - (j + 1)) by omega, Nat.pow_add]
    rw [ih, e2, hiZ]
    rw [show sumZ bs (k - j) = sumZ bs (k - (j + 1)) + (bs.getD (1 + (k - (j + 1))) 0).toNat * 2 ^ (8 * (k - (j + 1))) by rw [e1]; exact sumZ_succ _ _]
    rw [show 1 + (k - (j + 1)) = k - j by omega, Nat.add_mul, Nat.mul_assoc]
    omega
theorem hiZ_all (bs : List UInt8) (k : Nat) : hiZ bs k k = sumZ bs k := by
  have := hiZ_sum bs k k (Nat.le_refl _)
  simp [sumZ] at this
  simp [sumZ, this]
theorem hi_mul (x : Nat) (y : Nat) : IntKind.i64.wrap (IntKind.i64.wrap (IntKind.i64.wrap (x : Int) * 256) + (y : Int)) = IntKind.i64.wrap (((x * 256 + y : Nat)) : Int) := by
  simp only [wrap_i64]; omega
def negB (bs : List UInt8) (k : Nat) : Bool := decide (0 < k) && decide (k < 8) && decide (128 ≤ (bs.getD k 0).toNat)
theorem numZ_ref (bs : List UInt8) (k : Nat) (hk : k ≤ 8) : numZ bs k = if negB bs k = true then IntKind.i64.wrap (sumZ bs k : Int) - 2 ^ (8 * k) else IntKind.i64.wrap (sumZ bs k : Int) := by
  have hlt := sumZ_lt bs k
  unfold numZ
  rw [accZ_sum bs k hk]
  have h : k = 0 ∨ k = 1 ∨ k = 2 ∨ k = 3 ∨ k = 4 ∨ k = 5 ∨ k = 6 ∨ k = 7 ∨ k = 8 := by omega
  have hs : ∀ m, sumZ bs (m + 1) = sumZ bs m + (bs.getD (1 + m) 0).toNat * 2 ^ (8 * m) := sumZ_succ bs
  have hl := sumZ_lt bs (k - 1)
  rcases h with rfl | rfl | rfl | rfl | rfl | rfl | rfl | rfl | rfl
  · simp [negB, sumZ]; rfl
  all_goals
    rw [if_neg (by omega)]
    simp only [negB]
  · rw [sx_def _ 1 72057594037927936 (by decide) (by decide)]
    have h1 := hs 0; simp only [Nat.zero_add, Nat.add_zero] at h1 hl ⊢
    simp only [wrap_i64] at *
    generalize sumZ bs 1 = X at *; generalize sumZ bs 0 = Y at *; generalize (bs.getD 1 0).toNat = y at *
    split <;> rename_i hc <;> simp at hc hl <;> omega
  · rw [sx_def _ 2 281474976710656 (by decide) (by decide)]
    have h1 := hs 1; simp only [show 1 + 1 = 2 from rfl] at h1
    simp only [wrap_i64] at *
    generalize sumZ bs 2 = X at *; generalize sumZ bs 1 = Y at *; generalize (bs.getD 2 0).toNat = y at *
    split <;> rename_i hc <;> simp at hc hl <;> omega
  · rw [sx_def _ 3 1099511627776 (by decide) (by decide)]
    have h1 := hs 2; simp only [show 2 + 1 = 3 from rfl, show 1 + 2 = 3 from rfl] at h1
    simp only [wrap_i64] at *
    generalize sumZ bs 3 = X at *; generalize sumZ bs 2 = Y at *; generalize (bs.getD 3 0).toNat = y at *
    split <;> rename_i hc <;> simp at hc hl <;> omega
  · rw [sx_def _ 4 4294967296 (by decide) (by decide)]
    have h1 := hs 3; simp only [show 3 + 1 = 4 from rfl, show 1 + 3 = 4 from rfl] at h1
    simp only [wrap_i64] at *
    generalize sumZ bs 4 = X at *; generalize sumZ bs 3 = Y at *; generalize (bs.getD 4 0).toNat = y at *
    split <;> rename_i hc <;> simp at hc hl <;> omega
  · rw [sx_def _ 5 16777216 (by decide) (by decide)]
    have h1 := hs 4; simp only [show 4 + 1 = 5 from rfl, show 1 + 4 = 5 from rfl] at h1
    simp only [wrap_i64] at *
    generalize sumZ bs 5 = X at *; generalize sumZ bs 4 = Y at *; generalize (bs.getD 5 0).toNat = y at *
    split <;> rename_i hc <;> simp at hc hl <;> omega
  · rw [sx_def _ 6 65536 (by decide) (by decide)]
    have h1 := hs 5; simp only [show 5 + 1 = 6 from rfl, show 1 + 5 = 6 from rfl] at h1
    simp only [wrap_i64] at *
    generalize sumZ bs 6 = X at *; generalize sumZ bs 5 = Y at *; generalize (bs.getD 6 0).toNat = y at *
    split <;> rename_i hc <;> simp at hc hl <;> omega
  · rw [sx_def _ 7 256 (by decide) (by decide)]
    have h1 := hs 6; simp only [show 6 + 1 = 7 from rfl, show 1 + 6 = 7 from rfl] at h1
    simp only [wrap_i64] at *
    generalize sumZ bs 7 = X at *; generalize sumZ bs 6 = Y at *; generalize (bs.getD 7 0).toNat = y at *
    split <;> rename_i hc <;> simp at hc hl <;> omega
  · rw [sx_def _ 8 1 (by decide) (by decide)]
    simp only [wrap_i64] at *
    generalize sumZ bs 8 = X at *
    rw [if_neg (by simp)]
    omega
theorem negB_iff (bs : List UInt8) (k : Nat) : negB bs k = true ↔ 0 < k ∧ k < 8 ∧ 128 ≤ (bs.getD k 0).toNat := by simp only [negB, Bool.and_eq_true, decide_eq_true_eq, and_assoc]
theorem wrap_I64 (x : Int) : I64 (IntKind.i64.wrap x) := by rw [wrap_i64]; constructor <;> omega
theorem numZ_I64 (bs : List UInt8) (k : Nat) (hk : k ≤ 8) : I64 (numZ bs k) := by
  rw [numZ_ref bs k hk]
  split
  · rename_i h
    rw [negB_iff] at h
    have hlt := sumZ_lt bs k
    have h1 : (2 : Nat) ^ (8 * k) ≤ 72057594037927936 := Nat.pow_le_pow_right (n := 2) (by decide) (show 8 * k ≤ 56 by omega)
    have hp := Int.natCast_pow 2 (8 * k)
    have hw : IntKind.i64.wrap (sumZ bs k : Int) = (sumZ bs k : Int) := wr64 rfl (by omega) (by omega)
    have hp' : ((2 : Nat) : Int) ^ (8 * k) = (2 : Int) ^ (8 * k) := rfl
    rw [hw]
    constructor
    · rw [← hp', ← hp]; omega
    · rw [← hp', ← hp]; omega
  · exact wrap_I64 _
/-- What the document's reader tells of bytes: the number, how many bytes. -/
def gotZ (bs : List UInt8) : Int × Int := match getZ bs with
  | none => (0, 0)
  | some (n, m) => (n, (m : Int))
/-- A text behind its length. -/
def encT (s : List UInt8) : List UInt8 := encZ (s.length : Int) ++ s
def encTs (ss : List (List UInt8)) : List UInt8 := (ss.map encT).flatten
theorem encTs_succ (ss : List (List UInt8)) (i : Nat) (hi : i < ss.length) : encTs (ss.take (i + 1)) = encTs (ss.take i) ++ encT (ss.getD i []) := by
  have : ss.take (i + 1) = ss.take i ++ [ss.getD i []] := by
    rw [List.take_add_one]
    simp [List.getD, List.getElem?_eq_getElem hi]
  rw [this]
  simp [encTs]
theorem encTs_len (ss : List (List UInt8)) (h : ∀ s ∈ ss, s.length ≤ 30) : (encTs ss).length ≤ 39 * ss.length := by
  induction ss with
  | nil => simp [encTs]
  | cons s r ih =>
    have h1 : encTs (s :: r) = encT s ++ encTs r := by simp [encTs]
    have h2 := sizeZ_le (s.length : Int)
    have h3 := h s (by simp)
    have h4 := ih (fun x hx => h x (by simp [hx]))
    rw [h1, List.length_append, encT, List.length_append, encZ_len, List.length_cons]
    omega
end Go.Proofs.YtpnhonhjheahhaaDoor

namespace Go.Proofs.YtpnhonhjheahhaaDoor
open Go.RowKit
theorem take_min' {α : Type} (l : List α) (k : Nat) : (if (k : Int) < (l.length : Int) then (k : Int) else (l.length : Int)) = (((l.take k).length : Nat) : Int) := by
  rw [List.length_take]
  split <;> omega
theorem getZ_some {bs : List UInt8} {n : Int} {m : Nat} (h : getZ bs = some (n, m)) : 1 ≤ m ∧ m ≤ bs.length ∧ I64 n := by
  unfold getZ at h
  split at h
  · cases h
  · split at h
    · cases h
    · split at h
      · cases h
      · split at h
        · simp only [Option.some.injEq, Prod.mk.injEq] at h
          obtain ⟨rfl, rfl⟩ := h
          exact ⟨by omega, by omega, numZ_I64 _ _ (by omega)⟩
        · cases h
theorem gotZ_none {bs : List UInt8} {n k : Int} (h : gotZ bs = (n, k)) (hg : getZ bs = none) : n = 0 ∧ k = 0 := by
  rw [gotZ, hg] at h
  simp only [Prod.mk.injEq] at h
  exact ⟨h.1.symm, h.2.symm⟩
theorem gotZ_some {bs : List UInt8} {n k n' : Int} {m : Nat} (h : gotZ bs = (n, k)) (hg : getZ bs = some (n', m)) : n = n' ∧ k = (m : Int) := by
  rw [gotZ, hg] at h
  simp only [Prod.mk.injEq] at h
  exact ⟨h.1.symm, h.2.symm⟩
theorem Src.cutA' {W : World} {B : Nat} {src : List Row} {A : Option Addr} {cp : Nat} {bs : List UInt8} (hs : Src W B src A (bs.map u8v)) (hc : bs.length ≤ cp) (i : Nat) (hi : i ≤ bs.length) : Src W B src (cutA A cp i 1) ((bs.drop i).map u8v) := by
  obtain ⟨A', cp', he, _, hs'⟩ := RdS.cut hs hc i hi
  injection he with h1
  rw [h1]; exact hs'
theorem Src.mono0 {W : World} {B : Nat} {src : List Row} {A : Option Addr} {xs : List Value} (k : Src W B [] A xs) : Src W B src A xs := by
  rcases k with h | ⟨a, h1, h2 | ⟨_, _, _, _, _, hm, _⟩⟩
  · exact .inl h
  · exact .inr ⟨a, h1, .inl h2⟩
  · cases hm
end Go.Proofs.YtpnhonhjheahhaaDoor
