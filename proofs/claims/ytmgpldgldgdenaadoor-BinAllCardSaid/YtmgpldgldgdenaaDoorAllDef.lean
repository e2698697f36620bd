/-
  READING ANY BYTES: what a number's reading leaves; a slice cut from its head. No program in sight.
-/
import Derived.Test.YtmgpldgldgdenaaDoorRefGet
namespace Go.Proofs.YtmgpldgldgdenaaDoor
open Go.RowKit
theorem take_min' {α : Type} (l : List α) (k : Nat) : (if (k : Int) < (l.length : Int) then (k : Int) else (l.length : Int)) = (((l.take k).length : Nat) : Int) := by
  rw [List.length_take]
  split <;> omega
theorem getZ_some {bs : List UInt8} {n : Int} {m : Nat} (h : getZ bs = some (n, m)) : 1 ≤ m ∧ m ≤ bs.length ∧ I64 n := by
  unfold getZ at h
  split at h
  · cases h
  · split at h
    · cases h
    · split at h
      · cases h
      · split at h
        · simp only [Option.some.injEq, Prod.mk.injEq] at h
          obtain ⟨rfl, rfl⟩ := h
          exact ⟨by omega, by omega, numZ_I64 _ _ (by omega)⟩
        · cases h
theorem gotZ_none {bs : List UInt8} {n k : Int} (h : gotZ bs = (n, k)) (hg : getZ bs = none) : n = 0 ∧ k = 0 := by
  rw [gotZ, hg] at h
  simp only [Prod.mk.injEq] at h
  exact ⟨h.1.symm, h.2.symm⟩
theorem gotZ_some {bs : List UInt8} {n k n' : Int} {m : Nat} (h : gotZ bs = (n, k)) (hg : getZ bs = some (n', m)) : n = n' ∧ k = (m : Int) := by
  rw [gotZ, hg] at h
  simp only [Prod.mk.injEq] at h
  exact ⟨h.1.symm, h.2.symm⟩
theorem Src.cutA' {W : World} {B : Nat} {src : List Row} {A : Option Addr} {cp : Nat} {bs : List UInt8} (hs : Src W B src A (bs.map u8v)) (hc : bs.length ≤ cp) (i : Nat) (hi : i ≤ bs.length) : Src W B src (cutA A cp i 1) ((bs.drop i).map u8v) := by
  obtain ⟨A', cp', he, _, hs'⟩ := RdS.cut hs hc i hi
  injection he with h1
  rw [h1]; exact hs'
theorem Src.mono0 {W : World} {B : Nat} {src : List Row} {A : Option Addr} {xs : List Value} (k : Src W B [] A xs) : Src W B src A xs := by
  rcases k with h | ⟨a, h1, h2 | ⟨_, _, _, _, _, hm, _⟩⟩
  · exact .inl h
  · exact .inr ⟨a, h1, .inl h2⟩
  · cases hm
end Go.Proofs.YtmgpldgldgdenaaDoor
