/-
  UNLIKE LISTS OF NUMBERS HAVE UNLIKE BYTES: the plain law. No program in sight.
-/
import Derived.Test.YtmgpldgldgdenaaDoorBinLaw
namespace Go.Proofs.YtmgpldgldgdenaaDoor
theorem encs_cons (n : Int) (r : List Int) : encs (n :: r) = encZ n ++ encs r := by simp [encs]
theorem encZ_pre {m n : Int} (hm : I64 m) (hn : I64 n) {r s : List UInt8} (h : encZ m ++ r = encZ n ++ s) : m = n ∧ r = s := by
  have h1 := getZ_enc hm r
  have h2 := getZ_enc hn s
  rw [h, h2] at h1
  simp only [Option.some.injEq, Prod.mk.injEq] at h1
  obtain ⟨rfl, _⟩ := h1
  exact ⟨rfl, List.append_cancel_left h⟩
theorem encs_inj : ∀ {a b : List Int}, (∀ n ∈ a, I64 n) → (∀ n ∈ b, I64 n) → encs a = encs b → a = b
  | [], [], _, _, _ => rfl
  | [], n :: r, _, _, h => by rw [encs_cons] at h; simp [encs, encZ] at h
  | n :: r, [], _, _, h => by rw [encs_cons] at h; simp [encs, encZ] at h
  | m :: r, n :: s, ha, hb, h => by
    rw [encs_cons, encs_cons] at h
    obtain ⟨rfl, h2⟩ := encZ_pre (ha m (by simp)) (hb n (by simp)) h
    rw [encs_inj (fun x hx => ha x (by simp [hx])) (fun x hx => hb x (by simp [hx])) h2]
/-- Of as many numbers: none's bytes begin another's. -/
theorem encs_pre : ∀ {a b : List Int} (s : List UInt8), (∀ n ∈ a, I64 n) → (∀ n ∈ b, I64 n) → a.length = b.length → encs b = encs a ++ s → a = b
  | [], [], _, _, _, _, _ => rfl
  | m :: r, n :: t, s, ha, hb, hl, h => by
    rw [encs_cons, encs_cons, List.append_assoc] at h
    obtain ⟨rfl, h2⟩ := encZ_pre (hb n (by simp)) (ha m (by simp)) h
    rw [encs_pre s (fun x hx => ha x (by simp [hx])) (fun x hx => hb x (by simp [hx])) (by simpa using hl) h2]
end Go.Proofs.YtmgpldgldgdenaaDoor
