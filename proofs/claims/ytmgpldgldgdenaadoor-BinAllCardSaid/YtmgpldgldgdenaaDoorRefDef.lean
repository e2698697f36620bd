/-
  WHERE THE DOCUMENT'S OWN WRITER OF NUMBERS STOPS: the plain law. No program in sight.
-/
import Derived.Test.YtmgpldgldgdenaaDoorLeastDef
namespace Go.Proofs.YtmgpldgldgdenaaDoor
open Go.RowKit
/-- What stands at the top of the document's loop, j bytes being written. -/
def stopZ (n : Int) (j : Nat) : Bool :=
  (decide (n / 2 ^ (8 * j) = 0) && (decide (j = 0) || decide ((byteZ n (j - 1)).toNat < 128))) || (decide (n / 2 ^ (8 * j) = -1) && decide (0 < j) && decide (128 ≤ (byteZ n (j - 1)).toNat))
theorem stopZ_zero (n : Int) : stopZ n 0 = true ↔ n = 0 := by simp [stopZ]
theorem stopZ_fits (n : Int) (j : Nat) (h1 : 1 ≤ j) (h8 : j ≤ 8) : stopZ n j = true ↔ Fits n j := by
  have hv := byteZ_val n (j - 1)
  have e : stopZ n j = true ↔ (n / 2 ^ (8 * j) = 0 ∧ (byteZ n (j - 1)).toNat < 128) ∨ (n / 2 ^ (8 * j) = -1 ∧ 128 ≤ (byteZ n (j - 1)).toNat) := by
    simp [stopZ, show j ≠ 0 by omega, show 0 < j by omega]
  rw [e, Fits]
  generalize (byteZ n (j - 1)).toNat = y at *
  have h : j = 1 ∨ j = 2 ∨ j = 3 ∨ j = 4 ∨ j = 5 ∨ j = 6 ∨ j = 7 ∨ j = 8 := by omega
  rcases h with rfl | rfl | rfl | rfl | rfl | rfl | rfl | rfl
  · simp only [show (2 : Int) ^ (8 * 1) = 256 by decide, show (2 : Int) ^ (8 * 1 - 1) = 128 by decide, show (2 : Int) ^ (8 * (1 - 1)) = 1 by decide] at hv ⊢; omega
  · simp only [show (2 : Int) ^ (8 * 2) = 65536 by decide, show (2 : Int) ^ (8 * 2 - 1) = 32768 by decide, show (2 : Int) ^ (8 * (2 - 1)) = 256 by decide] at hv ⊢; omega
  · simp only [show (2 : Int) ^ (8 * 3) = 16777216 by decide, show (2 : Int) ^ (8 * 3 - 1) = 8388608 by decide, show (2 : Int) ^ (8 * (3 - 1)) = 65536 by decide] at hv ⊢; omega
  · simp only [show (2 : Int) ^ (8 * 4) = 4294967296 by decide, show (2 : Int) ^ (8 * 4 - 1) = 2147483648 by decide, show (2 : Int) ^ (8 * (4 - 1)) = 16777216 by decide] at hv ⊢; omega
  · simp only [show (2 : Int) ^ (8 * 5) = 1099511627776 by decide, show (2 : Int) ^ (8 * 5 - 1) = 549755813888 by decide, show (2 : Int) ^ (8 * (5 - 1)) = 4294967296 by decide] at hv ⊢; omega
  · simp only [show (2 : Int) ^ (8 * 6) = 281474976710656 by decide, show (2 : Int) ^ (8 * 6 - 1) = 140737488355328 by decide, show (2 : Int) ^ (8 * (6 - 1)) = 1099511627776 by decide] at hv ⊢; omega
  · simp only [show (2 : Int) ^ (8 * 7) = 72057594037927936 by decide, show (2 : Int) ^ (8 * 7 - 1) = 36028797018963968 by decide, show (2 : Int) ^ (8 * (7 - 1)) = 281474976710656 by decide] at hv ⊢; omega
  · simp only [show (2 : Int) ^ (8 * 8) = 18446744073709551616 by decide, show (2 : Int) ^ (8 * 8 - 1) = 9223372036854775808 by decide, show (2 : Int) ^ (8 * (8 - 1)) = 72057594037927936 by decide] at hv ⊢; omega
theorem fits8 {n : Int} (hn : I64 n) : Fits n 8 := by
  obtain ⟨h1, h2⟩ := hn
  simp only [Fits, show (2 : Int) ^ (8 * 8 - 1) = 9223372036854775808 by decide]
  omega
/-- It stops behind as many bytes as the number takes. -/
theorem stop_size {n : Int} (hn : I64 n) {j : Nat} (h8 : j ≤ 8) (hlt : ∀ i, i < j → stopZ n i = false) (hs : stopZ n j = true) : sizeZ n = j := by
  rcases Nat.eq_zero_or_pos j with rfl | hj
  · rw [(stopZ_zero n).1 hs]; rfl
  · have h0 : n ≠ 0 := fun h => by
      have := hlt 0 hj
      rw [(stopZ_zero n).2 h] at this
      cases this
    refine sizeZ_first hn h0 hj h8 (fun i h1 h2 hf => ?_) (.inr ((stopZ_fits n j hj h8).1 hs))
    have := hlt i h2
    rw [(stopZ_fits n i h1 (by omega)).2 hf] at this
    cases this
theorem shr8 (n : Int) (j : Nat) : (n / 2 ^ (8 * j)).fdiv (2 ^ min (8 : Int).toNat 64) = n / 2 ^ (8 * (j + 1)) := by
  rw [show min (8 : Int).toNat 64 = 8 from rfl, Int.fdiv_eq_ediv_of_nonneg _ (by decide), show 8 * (j + 1) = 8 * j + 8 by omega, Int.pow_add, Int.ediv_ediv, if_neg (fun h => absurd h.1 (Int.not_lt.2 (Int.pow_nonneg (by decide)))), Int.sub_zero]
theorem and255' (x y : Int) (hy : y = 255) : IntKind.u8.wrap (bits .and .i64 x y) = IntKind.u8.wrap x := by
  have e1 : (BitVec.ofInt 64 x &&& BitVec.ofInt 64 y).toNat = (x % 18446744073709551616).toNat % 256 := by
    have h255 : (y % 18446744073709551616).toNat = 2 ^ 8 - 1 := by rw [hy]; decide
    rw [BitVec.toNat_and, bv_of, bv_of, h255, Nat.and_two_pow_sub_one_eq_mod]
  show IntKind.u8.wrap (IntKind.i64.wrap (((BitVec.ofInt 64 x &&& BitVec.ofInt 64 y).toNat : Nat) : Int)) = _
  rw [e1, wrap_u8, wrap_u8, wrap_i64]
  have hA : ((((x % 18446744073709551616).toNat % 256 : Nat) : Int) + 9223372036854775808) % 18446744073709551616 - 9223372036854775808 = x % 256 := by omega
  rw [hA]
  have hB : x % 256 % 256 = x % 256 := by omega
  rw [hB]
theorem and255 (x : Int) : IntKind.u8.wrap (bits .and .i64 x 255) = IntKind.u8.wrap x := and255' x 255 rfl
end Go.Proofs.YtmgpldgldgdenaaDoor
