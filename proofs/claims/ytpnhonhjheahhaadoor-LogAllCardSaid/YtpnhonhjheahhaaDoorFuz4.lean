/-
  The contracts of slot on a device that may go down: what is told, what lasts.
-/
import Derived.Test.YtpnhonhjheahhaaDoorHelp5
namespace Go.Proofs.YtpnhonhjheahhaaDoor
open Go.RowKit

theorem hold_blow {n : Nat} {d : DevS} {P : (Nat → List UInt8) → Prop} (h : Hold n d P) (k : Int) : Hold n (d.blow k) P := h
theorem flat_blow {d : DevS} (h : Flat d) (k : Int) : Flat (d.blow k) := h
theorem ok_blow {n : Nat} {d : DevS} (h : d.Ok n) (k : Nat) (hk : k ≤ 1000) : (d.blow (k : Int)).Ok n := h.blow (by omega) (by omega)
section
variable (W : World) (B : Nat)
theorem law_ints_ne (src : List Row) (A1 A2 : Option Addr) (cp1 cp2 : Nat) (l1 l2 : List Int) (hs1 : Src W B src A1 (l1.map i64v)) (hs2 : Src W B src A2 (l2.map i64v)) (hc1 : l1.length ≤ 1000000000) (hc2 : l2.length ≤ 1000000000) (hne : l1 ≠ l2) :
    Spec Tryd.prog W B 38 [.slice A1 l1.length cp1, .slice A2 l2.length cp2] src (fun v post => v = .bool false ∧ post = src) := by
  refine (law_ints W B src A1 A2 cp1 cp2 l1 l2 hs1 hs2 hc1 hc2).mono ?_
  rintro _ _ ⟨rfl, rfl⟩
  exact ⟨by rw [decide_eq_false hne], rfl⟩
theorem slot_Open_none (p bn bw bl n : Nat) (s : DevS) (hs : s.Ok n) {ns : List Int} (h : SlotAt s.N 0 ns) :
    Spec Tryd.prog W B 33 [.pointer (some ⟨p, 0, none⟩)] (devC p bn bw bl n s) (fun v post => v = .tuple #[.pointer none, .slice none 0 0, .int .i64 10] ∧ post = devC p bn bw bl n s) := by
  refine (slot_Open W B p bn bw bl n s hs).mono ?_
  rw [h.newest]
  rintro v post (⟨_, rfl, rfl⟩ | ⟨he, _⟩)
  · exact ⟨rfl, rfl⟩
  · exact absurd rfl he
theorem slot_Set_fz (q p bn bw bl n : Nat) (s : DevS) (hs : s.Ok n) {sr : Int} {ns : List Int} (h : Hold n s (SlotAt · sr ns)) (h1 : sr ≤ 999999999) (ns' : List Int) (hns : ∀ n ∈ ns', I64 n) (h4 : ns'.length ≤ 4) (src : List Row) (A : Option Addr) (cp : Nat) (hsrc : Src W B src A (ns'.map i64v)) :
    Spec Tryd.prog W B 35 [.pointer (some ⟨q, 0, none⟩), .slice A ns'.length cp] (src ++ ([slC q p sr false] ++ devC p bn bw bl n s))
      (fun v post => (v = .int .i64 0 ∧ ∃ d, d.Ok n ∧ Flat d ∧ SlotAt d.N (sr + 1) ns' ∧ post = src ++ ([slC q p (sr + 1) false] ++ devC p bn bw bl n d)) ∨
        (v = .int .i64 9 ∧ ∃ d, d.Ok n ∧ d.down = true ∧ (∀ X, Mix n d X → SlotAt X sr ns ∨ SlotAt X (sr + 1) ns') ∧ post = src ++ ([slC q p sr true] ++ devC p bn bw bl n d))) := by
  have hs0 := (h s.N (Mix.self n s)).1
  have hok := setS_ok hs sr ns'
  refine (slot_Set W B q p bn bw bl n s hs sr hs0 (by omega) ns' hns h4 src A cp hsrc).mono ?_
  rintro v post ⟨rfl, rfl⟩
  rcases set_spec hs h (by omega) h4 hns with ⟨he, hx⟩ | ⟨he, hx⟩
  · rw [he]; exact .inl ⟨rfl, _, hok, hx.flat, hx.slot, rfl⟩
  · rw [he]; exact .inr ⟨rfl, _, hok, hx.down, hx.slot, rfl⟩
theorem slot_Make_fz (p bn bw bl n : Nat) (s : DevS) (hs : s.Ok n) {sr : Int} {ns : List Int} (h : Hold n s (SlotAt · sr ns)) (h1 : sr ≤ 999999999) (ns' : List Int) (hns : ∀ n ∈ ns', I64 n) (h4 : ns'.length ≤ 4) (src : List Row) (A : Option Addr) (cp : Nat) (hsrc : Src W B src A (ns'.map i64v)) :
    Spec Tryd.prog W B 32 [.pointer (some ⟨p, 0, none⟩), .slice A ns'.length cp] (src ++ devC p bn bw bl n s)
      (fun v post => (∃ q d, v = .tuple #[.pointer (some ⟨q, 0, none⟩), .int .i64 0] ∧ d.Ok n ∧ Flat d ∧ SlotAt d.N (sr + 1) ns' ∧ post = src ++ ([slC q p (sr + 1) false] ++ devC p bn bw bl n d)) ∨
        (∃ d, v = .tuple #[.pointer none, .int .i64 9] ∧ d.Ok n ∧ d.down = true ∧ (∀ X, Mix n d X → SlotAt X sr ns ∨ SlotAt X (sr + 1) ns') ∧ post = src ++ devC p bn bw bl n d)) := by
  have hnw := (h s.N (Mix.self n s)).newest
  have hs0 := (h s.N (Mix.self n s)).1
  have hok := setS_ok hs sr ns'
  refine (slot_Make W B p bn bw bl n s hs (by rw [hnw]; exact hs0) (by rw [hnw]; show sr ≤ _; omega) ns' hns h4 src A cp hsrc).mono ?_
  rw [hnw]
  have hsp := set_spec hs h (by omega) h4 hns
  rintro v post (⟨he, q, rfl, rfl⟩ | ⟨he, rfl, rfl⟩)
  · rcases hsp with ⟨_, hx⟩ | ⟨he2, _⟩
    · exact .inl ⟨q, _, rfl, hok, hx.flat, hx.slot, rfl⟩
    · dsimp only at he; rw [he2] at he; cases he
  · rcases hsp with ⟨he2, _⟩ | ⟨he2, hx⟩
    · exact absurd he2 he
    · dsimp only
      rw [he2]
      exact .inr ⟨_, rfl, hok, hx.down, hx.slot, rfl⟩
end
end Go.Proofs.YtpnhonhjheahhaaDoor
