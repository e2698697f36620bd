/-
  WHAT A CRASH KEEPS, sector by sector; how many are loose: the plain law. No program in sight.
-/
import Derived.Test.YtpnhonhjheahhaaDoorDevDef
namespace Go.Proofs.YtpnhonhjheahhaaDoor
theorem getD_set {α : Type} (l : List α) (i j : Nat) (x d : α) (hi : i < l.length) : (l.set i x).getD j d = if i = j then x else l.getD j d := by
  by_cases h : i = j
  · subst h; simp [List.getD, hi]
  · simp [List.getD, h]
theorem kept_was (s : DevS) (L : List Nat) (keep : List Bool) (n i : Nat) (hn : s.now.length = n) (hL : ∀ x ∈ L, x < n) : ∀ m, m ≤ L.length → (∃ k, k < m ∧ L[k]? = some i ∧ keep.getD k false = false) → (s.kept L keep m).getD i [] = s.was.getD i []
  | 0, _, ⟨_, h, _⟩ => by omega
  | m + 1, hm, ⟨k, hk, hLk, hkf⟩ => by
    have hlen : ∀ q, q ≤ L.length → (s.kept L keep q).length = n := by
      intro q
      induction q with
      | zero => intro _; exact hn
      | succ q ih =>
        intro hq
        rw [DevS.kept_succ]
        split
        · exact ih (by omega)
        · rw [List.length_set]; exact ih (by omega)
    have hg : L[m]? = some (L.getD m 0) := by simp [List.getD, List.getElem?_eq_getElem (show m < L.length by omega)]
    rw [DevS.kept_succ]
    by_cases hkm : k = m
    · subst hkm
      rw [if_neg (by rw [hkf]; simp)]
      have hi : L.getD k 0 = i := by rw [hLk] at hg; exact (Option.some.inj hg).symm
      rw [hi, getD_set _ _ _ _ _ (by rw [hlen k (by omega)]; exact hL i (List.mem_of_getElem? hLk)), if_pos rfl]
    · split
      · exact kept_was s L keep n i hn hL m (by omega) ⟨k, by omega, hLk, hkf⟩
      · rw [getD_set _ _ _ _ _ (by rw [hlen m (by omega)]; exact hL _ (List.mem_of_getElem? hg))]
        split
        · rename_i h; rw [h]
        · exact kept_was s L keep n i hn hL m (by omega) ⟨k, by omega, hLk, hkf⟩
theorem kept_now (s : DevS) (L : List Nat) (keep : List Bool) (i : Nat) : ∀ m, m ≤ L.length → (∀ k, k < m → L[k]? = some i → keep.getD k false = true) → (s.kept L keep m).getD i [] = s.now.getD i []
  | 0, _, _ => rfl
  | m + 1, hm, h => by
    have ih := kept_now s L keep i m (by omega) (fun k hk => h k (by omega))
    have hg : L[m]? = some (L.getD m 0) := by simp [List.getD, List.getElem?_eq_getElem (show m < L.length by omega)]
    rw [DevS.kept_succ]
    split
    · exact ih
    · rename_i hk
      have hne : L.getD m 0 ≠ i := fun he => hk (h m (by omega) (by rw [hg, he]))
      rw [← ih, List.getD_eq_getElem?_getD, List.getElem?_set_ne hne, ← List.getD_eq_getElem?_getD]
theorem loose_pair (s : DevS) (n : Nat) : (looseTo s n).Pairwise (· < ·) := (List.pairwise_lt_range).filter _
theorem loose_nodup (s : DevS) (n : Nat) : (looseTo s n).Nodup := (loose_pair s n).imp (fun h => Nat.ne_of_lt h)
theorem loose_mem (s : DevS) (n i : Nat) : i ∈ looseTo s n ↔ i < n ∧ s.loose.getD i false = true := by simp [looseTo]
theorem same_len {l1 l2 : List Nat} (h1 : l1.Nodup) (h2 : l2.Nodup) (h : ∀ x, x ∈ l1 ↔ x ∈ l2) : l1.length = l2.length :=
  ((List.perm_ext_iff_of_nodup h1 h2).2 h).length_eq
end Go.Proofs.YtpnhonhjheahhaaDoor
