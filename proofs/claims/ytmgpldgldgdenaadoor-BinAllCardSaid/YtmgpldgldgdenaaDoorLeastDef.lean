/-
  HOW FEW BYTES A NUMBER TAKES: the plain law. No program in sight.
-/
import Derived.Test.YtmgpldgldgdenaaDoorBinLaw
namespace Go.Proofs.YtmgpldgldgdenaaDoor
open Go.RowKit
theorem sx_fit {n : Int} (hn : I64 n) (k : Nat) (h1 : 1 ≤ k) (h7 : k ≤ 7) : n = sx n k ↔ Fits n k := by
  obtain ⟨f1, f2, f3, f4, f5, f6, f7⟩ := sx_fits hn
  have h : k = 1 ∨ k = 2 ∨ k = 3 ∨ k = 4 ∨ k = 5 ∨ k = 6 ∨ k = 7 := by omega
  rcases h with rfl | rfl | rfl | rfl | rfl | rfl | rfl
  · exact f1
  · exact f2
  · exact f3
  · exact f4
  · exact f5
  · exact f6
  · exact f7
theorem sizeZ_first {n : Int} (hn : I64 n) {k : Nat} (h0 : n ≠ 0) (h1 : 1 ≤ k) (h8 : k ≤ 8) (hlt : ∀ j, 1 ≤ j → j < k → ¬ Fits n j) (he : k = 8 ∨ Fits n k) : sizeZ n = k := by
  refine sizeZ_eq h0 h1 h8 (fun j hj hjk he => hlt j hj hjk ((sx_fit hn j hj (by omega)).1 he)) ?_
  by_cases hk : k = 8
  · exact .inl hk
  · rcases he with h | h
    · exact .inl h
    · exact .inr ((sx_fit hn k h1 (by omega)).2 h)
theorem fits_size' {n : Int} (hn : I64 n) : n = 0 ∨ sizeZ n = 8 ∨ (1 ≤ sizeZ n ∧ Fits n (sizeZ n)) := by
  rcases fits_size hn with h | h | h
  · exact .inl (sizeZ_zero h)
  · exact .inr (.inl h)
  · by_cases h0 : sizeZ n = 0
    · exact .inl (sizeZ_zero h0)
    · exact .inr (.inr ⟨by omega, h⟩)
theorem pow_step (k : Nat) (h : 1 ≤ k) : (2 : Int) ^ (8 * (k + 1) - 1) = 256 * 2 ^ (8 * k - 1) := by
  rw [show 8 * (k + 1) - 1 = (8 * k - 1) + 8 by omega, Int.pow_add]
  omega
/-- What is one byte longer than it must be. -/
def longZ (n : Int) : List UInt8 := UInt8.ofNat (sizeZ n + 1) :: ((List.range (sizeZ n)).map (byteZ n) ++ [if n < 0 then 255 else 0])
theorem pad_byte {n : Int} (hn : I64 n) (h8 : sizeZ n ≠ 8) : (if n < 0 then (255 : UInt8) else 0) = byteZ n (sizeZ n) := by
  have hv := byteZ_val n (sizeZ n)
  have hf : -(2 ^ (8 * sizeZ n) : Int) ≤ n ∧ n < 2 ^ (8 * sizeZ n) := by
    rcases fits_size' hn with h | h | ⟨h1, h2⟩
    · subst h; exact ⟨by decide, by decide⟩
    · exact absurd h h8
    · obtain ⟨ha, hb⟩ := h2
      have hp : (2 : Int) ^ (8 * sizeZ n) = 2 * 2 ^ (8 * sizeZ n - 1) := by
        rw [show 8 * sizeZ n = (8 * sizeZ n - 1) + 1 by omega, Int.pow_succ]
        simp; omega
      have hq : (0 : Int) < 2 ^ (8 * sizeZ n - 1) := Int.pow_pos (by decide)
      exact ⟨by rw [hp]; omega, by rw [hp]; omega⟩
  have hq : (0 : Int) < 2 ^ (8 * sizeZ n) := Int.pow_pos (by decide)
  apply UInt8.toNat_inj.1
  have hgoal : (((if n < 0 then (255 : UInt8) else 0).toNat : Nat) : Int) = ((byteZ n (sizeZ n)).toNat : Int) := by
    rw [hv]
    by_cases hneg : n < 0
    · have : n / 2 ^ (8 * sizeZ n) = -1 := by
        have e1 := Int.add_mul_ediv_right n 1 (show (2 : Int) ^ (8 * sizeZ n) ≠ 0 by omega)
        have e2 : (n + 1 * 2 ^ (8 * sizeZ n)) / 2 ^ (8 * sizeZ n) = 0 := Int.ediv_eq_zero_of_lt (by omega) (by omega)
        omega
      rw [if_pos hneg, this]; rfl
    · have : n / 2 ^ (8 * sizeZ n) = 0 := Int.ediv_eq_zero_of_lt (by omega) hf.2
      rw [if_neg hneg, this]; rfl
  exact_mod_cast hgoal
theorem longZ_eq {n : Int} (hn : I64 n) (h8 : sizeZ n ≠ 8) : longZ n = UInt8.ofNat (sizeZ n + 1) :: (List.range (sizeZ n + 1)).map (byteZ n) := by
  rw [longZ, pad_byte hn h8, List.range_succ, List.map_append]
  rfl
theorem sumZ_long (n : Int) (k : Nat) (hk : k ≤ 8) (r : List UInt8) (x : UInt8) : ∀ m, m ≤ k → (sumZ (x :: (List.range k).map (byteZ n) ++ r) m : Int) = n % 2 ^ (8 * m)
  | 0, _ => by simp [sumZ]
  | m + 1, hm => by
    have hget : (x :: (List.range k).map (byteZ n) ++ r).getD (1 + m) 0 = byteZ n m := by
      rw [Nat.add_comm, List.getD_eq_getElem?_getD, List.getElem?_append_left (by simp; omega)]
      simp [show m < k by omega]
    rw [sumZ_succ, hget, Int.natCast_add, sumZ_long n k hk r x m (by omega), Int.natCast_mul, byteZ_val, ← mod_step n m (by omega)]
    simp
theorem getZ_long {n : Int} (hn : I64 n) (h8 : sizeZ n ≠ 8) : getZ (longZ n) = none := by
  have hz := sizeZ_le n
  rw [longZ_eq hn h8]
  have hh : ((UInt8.ofNat (sizeZ n + 1) :: (List.range (sizeZ n + 1)).map (byteZ n)).getD 0 0).toNat = sizeZ n + 1 := by
    show (UInt8.ofNat (sizeZ n + 1)).toNat = _
    rw [UInt8.toNat_ofNat']
    omega
  have hnum : numZ (UInt8.ofNat (sizeZ n + 1) :: (List.range (sizeZ n + 1)).map (byteZ n)) (sizeZ n + 1) = n := by
    unfold numZ
    rw [if_neg (by omega), accZ_sum _ _ (by omega)]
    have hs := sumZ_long n (sizeZ n + 1) (by omega) [] (UInt8.ofNat (sizeZ n + 1)) (sizeZ n + 1) (Nat.le_refl _)
    rw [List.append_nil] at hs
    rw [hs]
    refine sx_mod hn _ (by omega) (by omega) ?_
    by_cases h7 : sizeZ n + 1 = 8
    · exact .inl h7
    · refine .inr ?_
      rcases fits_size' hn with h | h | ⟨h1, ha, hb⟩
      · subst h; exact ⟨by decide, by decide⟩
      · exact absurd h h8
      · have hp := pow_step (sizeZ n) h1
        have hq : (0 : Int) < 2 ^ (8 * sizeZ n - 1) := Int.pow_pos (by decide)
        exact ⟨by rw [hp]; omega, by rw [hp]; omega⟩
  have hl : (UInt8.ofNat (sizeZ n + 1) :: (List.range (sizeZ n + 1)).map (byteZ n)).length = sizeZ n + 2 := by simp
  unfold getZ
  rw [hh, hnum, if_neg (by omega), if_neg (by omega), if_neg (by omega), if_neg (by omega)]
end Go.Proofs.YtmgpldgldgdenaaDoor
