/-
  BYTES OF NUMBERS, CUT OFF: the plain law. No program in sight.
-/
import Derived.Test.YtmgpldgldgdenaaDoorUnlikeDef
namespace Go.Proofs.YtmgpldgldgdenaaDoor
theorem getZ_short (x : Int) (m : Nat) (hm : m < (encZ x).length) : getZ ((encZ x).take m) = none := by
  rw [encZ_len] at hm
  have hz := sizeZ_le x
  have hl : ((encZ x).take m).length = m := by rw [List.length_take, encZ_len]; omega
  unfold getZ
  rw [hl]
  rcases Nat.eq_zero_or_pos m with h | h
  · rw [if_pos h]
  · have hh : (((encZ x).take m).getD 0 0).toNat = sizeZ x := by
      have := encZ_head x []
      rw [List.append_nil] at this
      rw [← this, List.getD_eq_getElem?_getD, List.getD_eq_getElem?_getD, List.getElem?_take_of_lt h]
    rw [hh, if_neg (by omega), if_neg (by omega), if_pos (by omega)]
theorem encs_split (l : List Int) (i : Nat) (hi : i < l.length) : encs l = encs (l.take i) ++ (encZ (l.getD i 0) ++ encs (l.drop (i + 1))) := by
  have h1 : l = l.take i ++ l.getD i 0 :: l.drop (i + 1) := by
    have h2 : l.drop i = l.getD i 0 :: l.drop (i + 1) := by
      rw [List.drop_eq_getElem_cons hi]
      simp [List.getD, List.getElem?_eq_getElem hi]
    rw [← h2, List.take_append_drop]
  conv => lhs; rw [h1]
  simp [encs]
/-- How far i numbers reach. -/
def reach (l : List Int) (i : Nat) : Nat := (encs (l.take i)).length
theorem reach_succ (l : List Int) (i : Nat) (hi : i < l.length) : reach l (i + 1) = reach l i + (sizeZ (l.getD i 0) + 1) := by
  rw [reach, encs_succ l i hi, List.length_append, encZ_len]
  rfl
theorem step_ok (l : List Int) (i cut : Nat) (hi : i < l.length) (hx : I64 (l.getD i 0)) (hc : reach l (i + 1) ≤ cut) :
    getZ (((encs l).take cut).drop (reach l i)) = some (l.getD i 0, sizeZ (l.getD i 0) + 1) ∧ (((encs l).take cut).drop (reach l i)).drop (sizeZ (l.getD i 0) + 1) = ((encs l).take cut).drop (reach l (i + 1)) := by
  rw [reach_succ l i hi] at hc
  refine ⟨?_, by rw [List.drop_drop, reach_succ l i hi]⟩
  have h1 : ((encs l).take cut).drop (reach l i) = encZ (l.getD i 0) ++ (encs (l.drop (i + 1))).take (cut - reach l i - (encZ (l.getD i 0)).length) := by
    rw [List.drop_take, encs_split l i hi, reach, List.drop_left, List.take_append, List.take_of_length_le]
    rw [encZ_len]
    unfold reach at hc
    omega
  rw [h1]
  exact getZ_enc hx _
theorem step_no (l : List Int) (i cut : Nat) (hi : i < l.length) (h0 : reach l i ≤ cut) (hc : cut < reach l (i + 1)) : getZ (((encs l).take cut).drop (reach l i)) = none := by
  rw [reach_succ l i hi] at hc
  have h1 : ((encs l).take cut).drop (reach l i) = (encZ (l.getD i 0)).take (cut - reach l i) := by
    rw [List.drop_take, encs_split l i hi, reach, List.drop_left, List.take_append_of_le_length]
    rw [encZ_len]
    unfold reach at hc h0
    omega
  rw [h1]
  exact getZ_short _ _ (by rw [encZ_len]; omega)
theorem encs_empty {l : List Int} (h : (encs l).length = 0) : l.length = 0 := by
  cases l with
  | nil => rfl
  | cons x r => rw [encs_cons, List.length_append, encZ_len] at h; omega
end Go.Proofs.YtmgpldgldgdenaaDoor
