/-
  THE PLAIN LAW OF NUMBERS IN BYTES: what is written is read back; how many bytes a number takes. No program in sight.
-/
import Derived.Test.YtpnhonhjheahhaaDoorBinDef
namespace Go.Proofs.YtpnhonhjheahhaaDoor
open Go.RowKit

/-- It fits into k bytes. -/
def Fits (n : Int) (k : Nat) : Prop := -(2 ^ (8 * k - 1) : Int) ≤ n ∧ n < (2 ^ (8 * k - 1) : Int)
theorem wrap_i64 (x : Int) : IntKind.i64.wrap x = (x + 9223372036854775808) % 18446744073709551616 - 9223372036854775808 := by
  simp only [IntKind.wrap, IntKind.bits, IntKind.signed, Bool.true_and, decide_eq_true_eq, show (2 : Int) ^ 64 = 18446744073709551616 by decide, show (2 : Int) ^ (64 - 1) = 9223372036854775808 by decide]
  by_cases h : x % 18446744073709551616 ≥ 9223372036854775808
  · rw [if_pos h]; omega
  · rw [if_neg h]; omega
theorem sx_def (n : Int) (k : Nat) (p : Int) (hp : (2 : Int) ^ (8 * (8 - k)) = p) (h0 : 0 < p) : sx n k = ((n * p + 9223372036854775808) % 18446744073709551616 - 9223372036854775808) / p := by
  rw [sx, wrap_i64, hp, Int.fdiv_eq_ediv_of_nonneg _ (by omega)]
theorem sx_fits {n : Int} (hn : I64 n) : (n = sx n 1 ↔ Fits n 1) ∧ (n = sx n 2 ↔ Fits n 2) ∧ (n = sx n 3 ↔ Fits n 3) ∧ (n = sx n 4 ↔ Fits n 4) ∧ (n = sx n 5 ↔ Fits n 5) ∧ (n = sx n 6 ↔ Fits n 6) ∧ (n = sx n 7 ↔ Fits n 7) := by
  obtain ⟨h1, h2⟩ := hn
  rw [sx_def n 1 72057594037927936 (by decide) (by decide), sx_def n 2 281474976710656 (by decide) (by decide), sx_def n 3 1099511627776 (by decide) (by decide), sx_def n 4 4294967296 (by decide) (by decide), sx_def n 5 16777216 (by decide) (by decide), sx_def n 6 65536 (by decide) (by decide), sx_def n 7 256 (by decide) (by decide)]
  simp only [Fits, show (2 : Int) ^ (8 * 1 - 1) = 128 by decide, show (2 : Int) ^ (8 * 2 - 1) = 32768 by decide, show (2 : Int) ^ (8 * 3 - 1) = 8388608 by decide, show (2 : Int) ^ (8 * 4 - 1) = 2147483648 by decide, show (2 : Int) ^ (8 * 5 - 1) = 549755813888 by decide, show (2 : Int) ^ (8 * 6 - 1) = 140737488355328 by decide, show (2 : Int) ^ (8 * 7 - 1) = 36028797018963968 by decide]
  refine ⟨?_, ?_, ?_, ?_, ?_, ?_, ?_⟩ <;> omega

theorem bv_of (z : Int) : (BitVec.ofInt 64 z).toNat = (z % 18446744073709551616).toNat := by
  rw [BitVec.toNat_ofInt]
  rfl
theorem or_acc (X b m : Nat) (hX : X < 2 ^ (8 * m)) (hb : b < 256) (hm : m ≤ 7) : bits .or .i64 (IntKind.i64.wrap (X : Int)) (IntKind.i64.wrap ((b : Int) * 2 ^ (8 * m))) = IntKind.i64.wrap ((X + b * 2 ^ (8 * m) : Nat) : Int) := by
  have hp : 2 ^ (8 * m) ≤ 2 ^ 56 := Nat.pow_le_pow_right (by decide) (by omega)
  have hbm : b * 2 ^ (8 * m) ≤ 255 * 2 ^ 56 := Nat.mul_le_mul (by omega) hp
  have h56 : (2 : Nat) ^ 56 = 72057594037927936 := by decide
  have e1 : (BitVec.ofInt 64 (IntKind.i64.wrap (X : Int))).toNat = X := by rw [bv_of, wrap_i64]; omega
  have e2 : (BitVec.ofInt 64 (IntKind.i64.wrap ((b : Int) * 2 ^ (8 * m)))).toNat = b * 2 ^ (8 * m) := by
    have hc : ((b : Int) * 2 ^ (8 * m)) = ((b * 2 ^ (8 * m) : Nat) : Int) := by simp
    rw [hc, bv_of, wrap_i64]
    omega
  have e3 : (BitVec.ofInt 64 (IntKind.i64.wrap (X : Int)) ||| BitVec.ofInt 64 (IntKind.i64.wrap ((b : Int) * 2 ^ (8 * m)))).toNat = X + b * 2 ^ (8 * m) := by
    rw [BitVec.toNat_or, e1, e2, Nat.or_comm, Nat.mul_comm, ← Nat.two_pow_add_eq_or_of_lt hX b]
    omega
  show IntKind.i64.wrap (((BitVec.ofInt 64 (IntKind.i64.wrap (X : Int)) ||| BitVec.ofInt 64 (IntKind.i64.wrap ((b : Int) * 2 ^ (8 * m)))).toNat : Nat) : Int) = _
  rw [e3]
def sumZ (bs : List UInt8) (m : Nat) : Nat := (List.range m).foldl (fun x i => x + (bs.getD (1 + i) 0).toNat * 2 ^ (8 * i)) 0
theorem sumZ_succ (bs : List UInt8) (m : Nat) : sumZ bs (m + 1) = sumZ bs m + (bs.getD (1 + m) 0).toNat * 2 ^ (8 * m) := by simp [sumZ, List.range_succ, List.foldl_append]
theorem accZ_succ (bs : List UInt8) (m : Nat) : accZ bs (m + 1) = bits .or .i64 (accZ bs m) (IntKind.i64.wrap (((bs.getD (1 + m) 0).toNat : Int) * 2 ^ (8 * m))) := by simp [accZ, List.range_succ, List.foldl_append]
theorem sumZ_lt (bs : List UInt8) : ∀ m, sumZ bs m < 2 ^ (8 * m)
  | 0 => by simp [sumZ]
  | m + 1 => by
    have h1 := sumZ_lt bs m
    have h2 := (bs.getD (1 + m) 0).toNat_lt
    have h3 : (bs.getD (1 + m) 0).toNat * 2 ^ (8 * m) ≤ 255 * 2 ^ (8 * m) := Nat.mul_le_mul_right _ (by omega)
    rw [sumZ_succ, show 8 * (m + 1) = 8 * m + 8 by omega, Nat.pow_add]
    omega
theorem accZ_sum (bs : List UInt8) : ∀ m, m ≤ 8 → accZ bs m = IntKind.i64.wrap (sumZ bs m : Int)
  | 0, _ => by simp [accZ, sumZ]; rfl
  | m + 1, hm => by
    rw [accZ_succ, accZ_sum bs m (by omega), or_acc _ _ m (sumZ_lt bs m) (bs.getD (1 + m) 0).toNat_lt (by omega), sumZ_succ]
theorem byteZ_val (n : Int) (i : Nat) : ((byteZ n i).toNat : Int) = n / 2 ^ (8 * i) % 256 := by
  have h : (0 : Int) ≤ 2 ^ (8 * i) := Int.pow_nonneg (by decide)
  rw [byteZ, UInt8.toNat_ofNat', Int.fdiv_eq_ediv_of_nonneg _ h]
  omega
theorem encZ_get (n : Int) (r : List UInt8) (i : Nat) (hi : i < sizeZ n) : (encZ n ++ r).getD (1 + i) 0 = byteZ n i := by
  rw [Nat.add_comm, List.getD_eq_getElem?_getD, List.getElem?_append_left (by rw [encZ_len]; omega)]
  simp [encZ, hi]
theorem encZ_head (n : Int) (r : List UInt8) : ((encZ n ++ r).getD 0 0).toNat = sizeZ n := by
  have := sizeZ_le n
  show (UInt8.ofNat (sizeZ n)).toNat = _
  rw [UInt8.toNat_ofNat']
  omega
theorem mod_step (n : Int) (m : Nat) (hm : m < 8) : n % 2 ^ (8 * m) + n / 2 ^ (8 * m) % 256 * 2 ^ (8 * m) = n % 2 ^ (8 * (m + 1)) := by
  have h : m = 0 ∨ m = 1 ∨ m = 2 ∨ m = 3 ∨ m = 4 ∨ m = 5 ∨ m = 6 ∨ m = 7 := by omega
  rcases h with rfl | rfl | rfl | rfl | rfl | rfl | rfl | rfl
  · simp only [show (2 : Int) ^ (8 * 0) = 1 by decide, show (2 : Int) ^ (8 * (0 + 1)) = 256 by decide]; omega
  · simp only [show (2 : Int) ^ (8 * 1) = 256 by decide, show (2 : Int) ^ (8 * (1 + 1)) = 65536 by decide]; omega
  · simp only [show (2 : Int) ^ (8 * 2) = 65536 by decide, show (2 : Int) ^ (8 * (2 + 1)) = 16777216 by decide]; omega
  · simp only [show (2 : Int) ^ (8 * 3) = 16777216 by decide, show (2 : Int) ^ (8 * (3 + 1)) = 4294967296 by decide]; omega
  · simp only [show (2 : Int) ^ (8 * 4) = 4294967296 by decide, show (2 : Int) ^ (8 * (4 + 1)) = 1099511627776 by decide]; omega
  · simp only [show (2 : Int) ^ (8 * 5) = 1099511627776 by decide, show (2 : Int) ^ (8 * (5 + 1)) = 281474976710656 by decide]; omega
  · simp only [show (2 : Int) ^ (8 * 6) = 281474976710656 by decide, show (2 : Int) ^ (8 * (6 + 1)) = 72057594037927936 by decide]; omega
  · simp only [show (2 : Int) ^ (8 * 7) = 72057594037927936 by decide, show (2 : Int) ^ (8 * (7 + 1)) = 18446744073709551616 by decide]; omega
theorem sumZ_enc (n : Int) (r : List UInt8) : ∀ m, m ≤ sizeZ n → (sumZ (encZ n ++ r) m : Int) = n % 2 ^ (8 * m)
  | 0, _ => by simp [sumZ]
  | m + 1, hm => by
    have := sizeZ_le n
    rw [sumZ_succ, encZ_get n r m (by omega), Int.natCast_add, sumZ_enc n r m (by omega), Int.natCast_mul, byteZ_val, ← mod_step n m (by omega)]
    simp
theorem sizeZ_zero {n : Int} (h : sizeZ n = 0) : n = 0 := by
  unfold sizeZ at h
  split at h
  · assumption
  · repeat' split at h
    all_goals omega
theorem fits_size {n : Int} (hn : I64 n) : sizeZ n = 0 ∨ sizeZ n = 8 ∨ Fits n (sizeZ n) := by
  obtain ⟨f1, f2, f3, f4, f5, f6, f7⟩ := sx_fits hn
  unfold sizeZ
  split
  · exact .inl rfl
  split
  · exact .inr (.inr (f1.1 (by assumption)))
  split
  · exact .inr (.inr (f2.1 (by assumption)))
  split
  · exact .inr (.inr (f3.1 (by assumption)))
  split
  · exact .inr (.inr (f4.1 (by assumption)))
  split
  · exact .inr (.inr (f5.1 (by assumption)))
  split
  · exact .inr (.inr (f6.1 (by assumption)))
  split
  · exact .inr (.inr (f7.1 (by assumption)))
  · exact .inr (.inl rfl)
theorem sx_mod {n : Int} (hn : I64 n) (k : Nat) (hk : 1 ≤ k) (hk8 : k ≤ 8) (hf : k = 8 ∨ Fits n k) : sx (IntKind.i64.wrap (n % 2 ^ (8 * k))) k = n := by
  obtain ⟨h1, h2⟩ := hn
  have h : k = 1 ∨ k = 2 ∨ k = 3 ∨ k = 4 ∨ k = 5 ∨ k = 6 ∨ k = 7 ∨ k = 8 := by omega
  rcases h with rfl | rfl | rfl | rfl | rfl | rfl | rfl | rfl
  · rw [sx_def _ 1 72057594037927936 (by decide) (by decide), wrap_i64]
    simp only [Fits, show (2 : Int) ^ (8 * 1) = 256 by decide, show (2 : Int) ^ (8 * 1 - 1) = 128 by decide] at hf ⊢
    omega
  · rw [sx_def _ 2 281474976710656 (by decide) (by decide), wrap_i64]
    simp only [Fits, show (2 : Int) ^ (8 * 2) = 65536 by decide, show (2 : Int) ^ (8 * 2 - 1) = 32768 by decide] at hf ⊢
    omega
  · rw [sx_def _ 3 1099511627776 (by decide) (by decide), wrap_i64]
    simp only [Fits, show (2 : Int) ^ (8 * 3) = 16777216 by decide, show (2 : Int) ^ (8 * 3 - 1) = 8388608 by decide] at hf ⊢
    omega
  · rw [sx_def _ 4 4294967296 (by decide) (by decide), wrap_i64]
    simp only [Fits, show (2 : Int) ^ (8 * 4) = 4294967296 by decide, show (2 : Int) ^ (8 * 4 - 1) = 2147483648 by decide] at hf ⊢
    omega
  · rw [sx_def _ 5 16777216 (by decide) (by decide), wrap_i64]
    simp only [Fits, show (2 : Int) ^ (8 * 5) = 1099511627776 by decide, show (2 : Int) ^ (8 * 5 - 1) = 549755813888 by decide] at hf ⊢
    omega
  · rw [sx_def _ 6 65536 (by decide) (by decide), wrap_i64]
    simp only [Fits, show (2 : Int) ^ (8 * 6) = 281474976710656 by decide, show (2 : Int) ^ (8 * 6 - 1) = 140737488355328 by decide] at hf ⊢
    omega
  · rw [sx_def _ 7 256 (by decide) (by decide), wrap_i64]
    simp only [Fits, show (2 : Int) ^ (8 * 7) = 72057594037927936 by decide, show (2 : Int) ^ (8 * 7 - 1) = 36028797018963968 by decide] at hf ⊢
    omega
  · rw [sx_def _ 8 1 (by decide) (by decide), wrap_i64]
    simp only [show (2 : Int) ^ (8 * 8) = 18446744073709551616 by decide]
    omega
/-- WHAT IS WRITTEN IS READ BACK. -/
theorem getZ_enc {n : Int} (hn : I64 n) (r : List UInt8) : getZ (encZ n ++ r) = some (n, sizeZ n + 1) := by
  have h8 := sizeZ_le n
  have hl : (encZ n ++ r).length = sizeZ n + 1 + r.length := by rw [List.length_append, encZ_len]
  have hnum : numZ (encZ n ++ r) (sizeZ n) = n := by
    unfold numZ
    split
    · exact (sizeZ_zero (by assumption)).symm
    · rw [accZ_sum _ _ h8, sumZ_enc n r _ (Nat.le_refl _)]
      refine sx_mod hn _ (by omega) h8 ?_
      rcases fits_size hn with h | h | h
      · omega
      · exact .inl h
      · exact .inr h
  unfold getZ
  rw [encZ_head, if_neg (by omega), if_neg (by omega), if_neg (by omega), hnum, if_pos rfl]
end Go.Proofs.YtpnhonhjheahhaaDoor
