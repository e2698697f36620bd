/-
  THE DOCUMENT'S OWN READER OF NUMBERS against the program's: the plain law. No program in sight.
-/
import Derived.Test.YtmgpldgldgdenaaDoorRefDef
namespace Go.Proofs.YtmgpldgldgdenaaDoor
open Go.RowKit
/-- The top j of k bytes, the greatest first. -/
def hiZ (bs : List UInt8) (k : Nat) : Nat → Nat
  | 0 => 0
  | j + 1 => hiZ bs k j * 256 + (bs.getD (k - j) 0).toNat
theorem hiZ_sum (bs : List UInt8) (k : Nat) : ∀ j, j ≤ k → sumZ bs k = hiZ bs k j * 2 ^ (8 * (k - j)) + sumZ bs (k - j)
  | 0, _ => by simp [hiZ]
  | j + 1, h => by
    have ih := hiZ_sum bs k j (by omega)
    have e1 : k - j = (k - (j + 1)) + 1 := by omega
    have e2 : (2 : Nat) ^ (8 * (k - j)) = 256 * 2 ^ (8 * (k - (j + 1))) := by
      rw [e1, show 8 * (k - (j + 1) + 1) = 8 + 8 * (k - (j + 1)) by omega, Nat.pow_add]
    rw [ih, e2, hiZ]
    rw [show sumZ bs (k - j) = sumZ bs (k - (j + 1)) + (bs.getD (1 + (k - (j + 1))) 0).toNat * 2 ^ (8 * (k - (j + 1))) by rw [e1]; exact sumZ_succ _ _]
    rw [show 1 + (k - (j + 1)) = k - j by omega, Nat.add_mul, Nat.mul_assoc]
    omega
theorem hiZ_all (bs : List UInt8) (k : Nat) : hiZ bs k k = sumZ bs k := by
  have := hiZ_sum bs k k (Nat.le_refl _)
  simp [sumZ] at this
  simp [sumZ, this]
theorem hi_mul (x : Nat) (y : Nat) : IntKind.i64.wrap (IntKind.i64.wrap (IntKind.i64.wrap (x : Int) * 256) + (y : Int)) = IntKind.i64.wrap (((x * 256 + y : Nat)) : Int) := by
  simp only [wrap_i64]; omega
def negB (bs : List UInt8) (k : Nat) : Bool := decide (0 < k) && decide (k < 8) && decide (128 ≤ (bs.getD k 0).toNat)
theorem numZ_ref (bs : List UInt8) (k : Nat) (hk : k ≤ 8) : numZ bs k = if negB bs k = true then IntKind.i64.wrap (sumZ bs k : Int) - 2 ^ (8 * k) else IntKind.i64.wrap (sumZ bs k : Int) := by
  have hlt := sumZ_lt bs k
  unfold numZ
  rw [accZ_sum bs k hk]
  have h : k = 0 ∨ k = 1 ∨ k = 2 ∨ k = 3 ∨ k = 4 ∨ k = 5 ∨ k = 6 ∨ k = 7 ∨ k = 8 := by omega
  have hs : ∀ m, sumZ bs (m + 1) = sumZ bs m + (bs.getD (1 + m) 0).toNat * 2 ^ (8 * m) := sumZ_succ bs
  have hl := sumZ_lt bs (k - 1)
  rcases h with rfl | rfl | rfl | rfl | rfl | rfl | rfl | rfl | rfl
  · simp [negB, sumZ]; rfl
  all_goals
    rw [if_neg (by omega)]
    simp only [negB]
  · rw [sx_def _ 1 72057594037927936 (by decide) (by decide)]
    have h1 := hs 0; simp only [Nat.zero_add, Nat.add_zero] at h1 hl ⊢
    simp only [wrap_i64] at *
    generalize sumZ bs 1 = X at *; generalize sumZ bs 0 = Y at *; generalize (bs.getD 1 0).toNat = y at *
    split <;> rename_i hc <;> simp at hc hl <;> omega
  · rw [sx_def _ 2 281474976710656 (by decide) (by decide)]
    have h1 := hs 1; simp only [show 1 + 1 = 2 from rfl] at h1
    simp only [wrap_i64] at *
    generalize sumZ bs 2 = X at *; generalize sumZ bs 1 = Y at *; generalize (bs.getD 2 0).toNat = y at *
    split <;> rename_i hc <;> simp at hc hl <;> omega
  · rw [sx_def _ 3 1099511627776 (by decide) (by decide)]
    have h1 := hs 2; simp only [show 2 + 1 = 3 from rfl, show 1 + 2 = 3 from rfl] at h1
    simp only [wrap_i64] at *
    generalize sumZ bs 3 = X at *; generalize sumZ bs 2 = Y at *; generalize (bs.getD 3 0).toNat = y at *
    split <;> rename_i hc <;> simp at hc hl <;> omega
  · rw [sx_def _ 4 4294967296 (by decide) (by decide)]
    have h1 := hs 3; simp only [show 3 + 1 = 4 from rfl, show 1 + 3 = 4 from rfl] at h1
    simp only [wrap_i64] at *
    generalize sumZ bs 4 = X at *; generalize sumZ bs 3 = Y at *; generalize (bs.getD 4 0).toNat = y at *
    split <;> rename_i hc <;> simp at hc hl <;> omega
  · rw [sx_def _ 5 16777216 (by decide) (by decide)]
    have h1 := hs 4; simp only [show 4 + 1 = 5 from rfl, show 1 + 4 = 5 from rfl] at h1
    simp only [wrap_i64] at *
    generalize sumZ bs 5 = X at *; generalize sumZ bs 4 = Y at *; generalize (bs.getD 5 0).toNat = y at *
    split <;> rename_i hc <;> simp at hc hl <;> omega
  · rw [sx_def _ 6 65536 (by decide) (by decide)]
    have h1 := hs 5; simp only [show 5 + 1 = 6 from rfl, show 1 + 5 = 6 from rfl] at h1
    simp only [wrap_i64] at *
    generalize sumZ bs 6 = X at *; generalize sumZ bs 5 = Y at *; generalize (bs.getD 6 0).toNat = y at *
    split <;> rename_i hc <;> simp at hc hl <;> omega
  · rw [sx_def _ 7 256 (by decide) (by decide)]
    have h1 := hs 6; simp only [show 6 + 1 = 7 from rfl, show 1 + 6 = 7 from rfl] at h1
    simp only [wrap_i64] at *
    generalize sumZ bs 7 = X at *; generalize sumZ bs 6 = Y at *; generalize (bs.getD 7 0).toNat = y at *
    split <;> rename_i hc <;> simp at hc hl <;> omega
  · rw [sx_def _ 8 1 (by decide) (by decide)]
    simp only [wrap_i64] at *
    generalize sumZ bs 8 = X at *
    rw [if_neg (by simp)]
    omega
theorem negB_iff (bs : List UInt8) (k : Nat) : negB bs k = true ↔ 0 < k ∧ k < 8 ∧ 128 ≤ (bs.getD k 0).toNat := by simp only [negB, Bool.and_eq_true, decide_eq_true_eq, and_assoc]
theorem wrap_I64 (x : Int) : I64 (IntKind.i64.wrap x) := by rw [wrap_i64]; constructor <;> omega
theorem numZ_I64 (bs : List UInt8) (k : Nat) (hk : k ≤ 8) : I64 (numZ bs k) := by
  rw [numZ_ref bs k hk]
  split
  · rename_i h
    rw [negB_iff] at h
    have hlt := sumZ_lt bs k
    have h1 : (2 : Nat) ^ (8 * k) ≤ 72057594037927936 := Nat.pow_le_pow_right (n := 2) (by decide) (show 8 * k ≤ 56 by omega)
    have hp := Int.natCast_pow 2 (8 * k)
    have hw : IntKind.i64.wrap (sumZ bs k : Int) = (sumZ bs k : Int) := wr64 rfl (by omega) (by omega)
    have hp' : ((2 : Nat) : Int) ^ (8 * k) = (2 : Int) ^ (8 * k) := rfl
    rw [hw]
    constructor
    · rw [← hp', ← hp]; omega
    · rw [← hp', ← hp]; omega
  · exact wrap_I64 _
/-- What the document's reader tells of bytes: the number, how many bytes. -/
def gotZ (bs : List UInt8) : Int × Int := match getZ bs with
  | none => (0, 0)
  | some (n, m) => (n, (m : Int))
/-- A text behind its length. -/
def encT (s : List UInt8) : List UInt8 := encZ (s.length : Int) ++ s
def encTs (ss : List (List UInt8)) : List UInt8 := (ss.map encT).flatten
theorem encTs_succ (ss : List (List UInt8)) (i : Nat) (hi : i < ss.length) : encTs (ss.take (i + 1)) = encTs (ss.take i) ++ encT (ss.getD i []) := by
  have : ss.take (i + 1) = ss.take i ++ [ss.getD i []] := by
    rw [List.take_add_one]
    simp [List.getD, List.getElem?_eq_getElem hi]
  rw [this]
  simp [encTs]
theorem encTs_len (ss : List (List UInt8)) (h : ∀ s ∈ ss, s.length ≤ 30) : (encTs ss).length ≤ 39 * ss.length := by
  induction ss with
  | nil => simp [encTs]
  | cons s r ih =>
    have h1 : encTs (s :: r) = encT s ++ encTs r := by simp [encTs]
    have h2 := sizeZ_le (s.length : Int)
    have h3 := h s (by simp)
    have h4 := ih (fun x hx => h x (by simp [hx]))
    rw [h1, List.length_append, encT, List.length_append, encZ_len, List.length_cons]
    omega
end Go.Proofs.YtmgpldgldgdenaaDoor
