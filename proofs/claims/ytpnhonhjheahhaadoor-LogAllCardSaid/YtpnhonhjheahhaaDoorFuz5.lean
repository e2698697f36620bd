/-
  The contracts of wal and snap on a device that may go down: what is told, what lasts.
-/
import Derived.Test.YtpnhonhjheahhaaDoorFuz4
namespace Go.Proofs.YtpnhonhjheahhaaDoor
open Go.RowKit

theorem RecsAt.one {W : World} {B : Nat} {ar : List Row} {vs : List Value} {l : List (List UInt8)} (h : RecsAt W B ar vs l) : ∀ u ∈ vs, u.oneCell' = true := by
  intro u hu
  obtain ⟨i, hi, rfl⟩ := List.getElem_of_mem hu
  obtain ⟨A, cp, h1, _⟩ := h.2 i (by rw [← h.1]; exact hi)
  have h2 : vs[i] = vs.getD i undef := by simp [List.getD, List.getElem?_eq_getElem hi]
  rw [h2, h1]
  rfl
theorem app_ne {α : Type} (l : List α) (x : α) : l ≠ l ++ [x] := fun h => by have := congrArg List.length h; simp at this
section
variable (W : World) (B : Nat)
theorem law_records_ne (src : List Row) (A1 A2 : Option Addr) (cp1 cp2 m1 m2 : Nat) (l1 l2 : List (List UInt8)) (hm1 : l1.length = m1) (hm2 : l2.length = m2) (vs1 vs2 : List Value) (hs1 : Src W B src A1 vs1) (hr1 : RecsAt W B src vs1 l1) (hs2 : Src W B src A2 vs2) (hr2 : RecsAt W B src vs2 l2) (hc1 : l1.length ≤ 1000000000) (hc2 : l2.length ≤ 1000000000) (hne : l1 ≠ l2) :
    Spec Tryd.prog W B 30 [.slice A1 m1 cp1, .slice A2 m2 cp2] src (fun v post => v = .bool false ∧ post = src) := by
  subst hm1; subst hm2
  refine (law_records W B src A1 A2 cp1 cp2 l1 l2 vs1 vs2 hs1 hr1 hs2 hr2 hc1 hc2).mono ?_
  rintro _ _ ⟨rfl, rfl⟩
  exact ⟨by rw [decide_eq_false hne], rfl⟩
theorem wal_Append_fz (l q p bn bw bl n : Nat) (s : DevS) (hs : s.Ok n) {g : LogS} (hg : g.Fine n) (h : Hold n s (LogAt · g)) (h1 : g.serial ≤ 999999999) (b : List UInt8) (hb : okRec b) (hfit : g.used + b.length + 2 ≤ ringN n) (src : List Row) (A : Option Addr) (cp : Nat) (hsrc : Src W B src A (b.map u8v)) :
    Spec Tryd.prog W B 25 [.pointer (some ⟨l, 0, none⟩), .slice A b.length cp] (src ++ (logC l q p g.log ++ devC p bn bw bl n s))
      (fun v post => (v = .int .i64 0 ∧ ∃ d, d.Ok n ∧ Flat d ∧ LogAt d.N ⟨g.serial + 1, g.area, g.length, g.recs ++ [b]⟩ ∧ LogS.Fine n ⟨g.serial + 1, g.area, g.length, g.recs ++ [b]⟩ ∧ (∀ i, n / 2 ≤ i → (d.N i = s.N i) ∧ (d.V i = s.V i ∨ d.V i = s.N i)) ∧ post = src ++ (logC l q p (LogS.log ⟨g.serial + 1, g.area, g.length, g.recs ++ [b]⟩) ++ devC p bn bw bl n d)) ∨
        (v = .int .i64 9 ∧ ∃ d L, d.Ok n ∧ d.down = true ∧ L.lbad = true ∧ (∀ X, Mix n d X → LogAt X g ∨ LogAt X ⟨g.serial + 1, g.area, g.length, g.recs ++ [b]⟩) ∧ LogS.Fine n ⟨g.serial + 1, g.area, g.length, g.recs ++ [b]⟩ ∧ (∀ i, n / 2 ≤ i → (d.N i = s.N i) ∧ (d.V i = s.V i ∨ d.V i = s.N i)) ∧ post = src ++ (logC l q p L ++ devC p bn bw bl n d))) := by
  have hsp := appendL_spec hs hg h1 h b
  have hfa := Fine.app hg hb h1 hfit
  refine (wal_Append W B l q p bn bw bl n s hs g.log (hg.In hs.n1) rfl rfl b src A cp (by have := hb.2; omega) hsrc).mono ?_
  rintro v post ⟨rfl, rfl⟩
  rcases hsp.cases with ⟨_, h2, _⟩ | ⟨_, _, h2, _⟩ | ⟨he, _, _, h2, h3, h4⟩ | ⟨he, _, _, h2, h3, h4⟩
  · have h5 := hb.1; have h6 := hb.2; omega
  · omega
  · rw [he, h3]; exact .inl ⟨rfl, _, hsp.ok, h2, h4, hfa, hsp.high, rfl⟩
  · rw [he]; exact .inr ⟨rfl, _, _, hsp.ok, h2, h3, h4, hfa, hsp.high, rfl⟩
theorem wal_Reset_fz (l q p bn bw bl n : Nat) (s : DevS) (hs : s.Ok n) {g : LogS} (hg : g.Fine n) (h : Hold n s (LogAt · g)) (h1 : g.serial ≤ 999999999) (a b : Int) (ha : I64 a) (hb : I64 b) :
    Spec Tryd.prog W B 27 [.pointer (some ⟨l, 0, none⟩), .int .i64 a, .int .i64 b] (logC l q p g.log ++ devC p bn bw bl n s)
      (fun v post => (v = .int .i64 0 ∧ ∃ d, d.Ok n ∧ Flat d ∧ LogAt d.N ⟨g.serial + 1, a, b, []⟩ ∧ LogS.Fine n ⟨g.serial + 1, a, b, []⟩ ∧ post = logC l q p (LogS.log ⟨g.serial + 1, a, b, []⟩) ++ devC p bn bw bl n d) ∨
        (v = .int .i64 9 ∧ ∃ d L, d.Ok n ∧ d.down = true ∧ L.lbad = true ∧ (∀ X, Mix n d X → LogAt X g ∨ LogAt X ⟨g.serial + 1, a, b, []⟩) ∧ LogS.Fine n ⟨g.serial + 1, a, b, []⟩ ∧ post = logC l q p L ++ devC p bn bw bl n d)) := by
  have hfr := Fine.reset hg h1 ha hb
  obtain ⟨hok, _, hsp⟩ := resetL_spec hs hg h1 ha hb h
  refine (wal_Reset W B l q p bn bw bl n s hs g.log (hg.In hs.n1) rfl rfl a b ha hb).mono ?_
  rintro v post ⟨rfl, rfl⟩
  rcases hsp with ⟨he, h2, h3, h4⟩ | ⟨he, h2, h3, h4⟩
  · rw [he, h3]; exact .inl ⟨rfl, _, hok, h2, h4, hfr, rfl⟩
  · rw [he]; exact .inr ⟨rfl, _, _, hok, h2, h3, h4, hfr, rfl⟩
theorem wal_Make_fz (p bn bw bl n : Nat) (s : DevS) (hs : s.Ok n) (hf : Flat s) {g : LogS} (hg : g.Fine n) (h : LogAt s.N g) (h1 : g.serial ≤ 999999998) :
    Spec Tryd.prog W B 22 [.pointer (some ⟨p, 0, none⟩)] (devC p bn bw bl n s)
      (fun v post => (∃ l q d, v = .tuple #[.pointer (some ⟨l, 0, none⟩), .int .i64 0] ∧ d.Ok n ∧ Flat d ∧ LogAt d.N ⟨g.serial + 1, 0, 0, []⟩ ∧ LogS.Fine n ⟨g.serial + 1, 0, 0, []⟩ ∧ post = logC l q p (LogS.log ⟨g.serial + 1, 0, 0, []⟩) ++ devC p bn bw bl n d) ∨
        (∃ d, v = .tuple #[.pointer none, .int .i64 9] ∧ d.Ok n ∧ d.down = true ∧ (∀ X, Mix n d X → LogAt X g ∨ LogAt X ⟨g.serial + 1, 0, 0, []⟩) ∧ LogS.Fine n ⟨g.serial + 1, 0, 0, []⟩ ∧ post = devC p bn bw bl n d)) := by
  have hn0 := hs.n0
  have hh : Hold n s (SlotAt · g.serial [g.area, g.length, (g.used : Int)]) := hold_slot hf (by omega) h.1
  have hs0 := h.1.1
  have hfr : LogS.Fine n ⟨g.serial + 1, 0, 0, []⟩ := Fine.reset hg (by omega) ⟨by decide, by decide⟩ ⟨by decide, by decide⟩
  refine (wal_Make W B p bn bw bl n s hs (by rw [h.1.newest]; exact hs0) (by rw [h.1.newest]; show g.serial ≤ _; omega)).mono ?_
  rw [h.1.newest]
  obtain ⟨hok, hsp⟩ := make_spec hs (by omega) hh
  rintro v post (⟨he, l, q, rfl, rfl⟩ | ⟨he, rfl, rfl⟩)
  · rcases hsp with ⟨_, h2, h3⟩ | ⟨he2, _⟩
    · exact .inl ⟨l, q, _, rfl, hok, h2, h3, hfr, rfl⟩
    · dsimp only at he; rw [he2] at he; cases he
  · rcases hsp with ⟨he2, _⟩ | ⟨he2, h2, h3, h4⟩
    · exact absurd he2 he
    · dsimp only
      rw [he2]
      refine .inr ⟨_, rfl, hok, h2, fun X hX => (h3 X hX).imp (fun k => ⟨k, h.2.congr (fun j hj => ?_)⟩) id, hfr, rfl⟩
      have hfit := hg.fits
      have hu : g.used = (recsB g.recs).length := rfl
      have hi : 2 + j / 64 < n := by unfold ringN at hfit; omega
      have h5 := h4 (2 + j / 64) (by omega)
      rcases hX (2 + j / 64) hi with k2 | k2
      · rw [k2]; exact h5.1
      · rw [k2, h5.2]; exact hf.V _
theorem snap_Put_fz (l q p bn bw bl n : Nat) (s : DevS) (hs : s.Ok n) {g : LogS} (hg : g.Fine n) (h : Hold n s (LogAt · g)) (h1 : g.serial ≤ 999999999) (t : List UInt8) (ht : t.length ≤ mostN n) (src : List Row) (A : Option Addr) (cp : Nat) (hsrc : Src W B src A (t.map u8v)) (hcp : t.length ≤ cp) :
    Spec Tryd.prog W B 37 [.pointer (some ⟨p, 0, none⟩), .pointer (some ⟨l, 0, none⟩), .slice A t.length cp] (src ++ (logC l q p g.log ++ devC p bn bw bl n s))
      (fun v post => (v = .int .i64 0 ∧ ∃ d, d.Ok n ∧ Flat d ∧ LogAt d.N ⟨g.serial + 1, putTo g.log, t.length, []⟩ ∧ AreaIs d.N (beginN n (putTo g.log)) t ∧ LogS.Fine n ⟨g.serial + 1, putTo g.log, t.length, []⟩ ∧ post = src ++ (logC l q p (LogS.log ⟨g.serial + 1, putTo g.log, t.length, []⟩) ++ devC p bn bw bl n d)) ∨
        (v = .int .i64 9 ∧ ∃ d L, d.Ok n ∧ d.down = true ∧ (∀ X, Mix n d X → LogAt X g ∨ (LogAt X ⟨g.serial + 1, putTo g.log, t.length, []⟩ ∧ AreaIs X (beginN n (putTo g.log)) t)) ∧ (∀ j, 2 ≤ j → (j < beginN n (putTo g.log) ∨ beginN n (putTo g.log) + n / 4 ≤ j) → d.N j = s.N j ∧ (d.V j = s.V j ∨ d.V j = s.N j)) ∧ LogS.Fine n ⟨g.serial + 1, putTo g.log, t.length, []⟩ ∧ post = src ++ (logC l q p L ++ devC p bn bw bl n d))) := by
  have hn1 := hs.n1
  have hto := putTo_two g.log
  have htm : t.length ≤ 1000000 := by unfold mostN at ht; omega
  have hsp := putL_spec hs hg h1 h t htm
  have hfr : LogS.Fine n ⟨g.serial + 1, putTo g.log, t.length, []⟩ := Fine.reset hg h1 ⟨by omega, by omega⟩ ⟨by omega, by omega⟩
  refine (snap_Put W B l q p bn bw bl n s hs g.log (hg.In hn1) rfl rfl t (by omega) src A cp hsrc hcp).mono ?_
  rintro v post ⟨rfl, rfl⟩
  rcases hsp.cases with ⟨_, h2, _⟩ | ⟨he, _, h2, h3, h4, h5⟩ | ⟨he, _, h2, h3⟩
  · omega
  · rw [he, h3]; exact .inl ⟨rfl, _, hsp.ok, h2, h4, h5, hfr, rfl⟩
  · rw [he]; exact .inr ⟨rfl, _, _, hsp.ok, h2, h3, hsp.other, hfr, rfl⟩
end
end Go.Proofs.YtpnhonhjheahhaaDoor
