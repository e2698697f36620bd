/-
  THE TWO DEVICES SIDE BY SIDE: the plain law; the document's device written.
-/
import Derived.Test.YtmgpldgldgdenaaDoorRDev4
import Derived.Test.YtmgpldgldgdenaaDoorDev4
namespace Go.Proofs.YtmgpldgldgdenaaDoor
open Go.RowKit
structure Same (s t : DevS) : Prop where
  now : s.now = t.now
  was : s.was = t.was
  loose : s.loose = t.loose
  down : s.down = t.down
  fused : s.down = false → s.fused = t.fused
  fuse : s.down = false → s.fuse = t.fuse
theorem Same.burn {s t : DevS} (h : Same s t) (hd : s.down = false) : Same s.burn t.burn := by
  have h1 := h.fused hd
  have h2 := h.fuse hd
  unfold DevS.burn
  cases hf : t.fused
  · rw [h1, hf]; simpa using h
  · rw [h1, hf]
    simp only [if_true]
    exact ⟨h.now, h.was, h.loose, by simp [h2], fun _ => by simp [h1, hf], fun _ => by simp [h2]⟩
theorem Same.put {s t : DevS} (h : Same s t) (i : Nat) (b : List UInt8) : Same (s.put i b) (t.put i b) := ⟨by simp [DevS.put, h.now], h.was, by simp [DevS.put, h.loose], h.down, h.fused, h.fuse⟩
theorem Same.err {s t : DevS} (h : Same s t) (n : Nat) (i : Int) (l : Nat) : s.err n i l = t.err n i l := by rw [DevS.err, DevS.err, h.down]
theorem Same.write {s t : DevS} (h : Same s t) (n : Nat) (i : Int) (b : List UInt8) : Same (s.write n i b) (t.write n i b) := by
  unfold DevS.write
  rw [h.err]
  split
  · rename_i he
    exact (h.put _ b).burn (by have := (DevS.err_zero he).1; rw [← h.down] at this; exact this)
  · exact h
theorem Same.flush {s t : DevS} (h : Same s t) (n : Nat) : Same (s.flush n) (t.flush n) := by
  unfold DevS.flush
  rw [← h.down]
  cases hd : s.down
  · simp only [Bool.false_eq_true, if_false]
    refine Same.burn ⟨h.now, h.now, rfl, h.down, h.fused, h.fuse⟩ hd
  · exact h
theorem Same.flushE {s t : DevS} (h : Same s t) : s.flushE = t.flushE := by rw [DevS.flushE, DevS.flushE, h.down]
theorem Same.looseTo {s t : DevS} (h : Same s t) (n : Nat) : looseTo s n = looseTo t n := by rw [Go.Proofs.YtmgpldgldgdenaaDoor.looseTo, Go.Proofs.YtmgpldgldgdenaaDoor.looseTo, h.loose]
theorem Same.crash {s t : DevS} (h : Same s t) (n : Nat) (keep : List Bool) : s.crash n keep = t.crash n keep := by
  unfold DevS.crash DevS.kept
  rw [h.looseTo, h.now, h.was]
theorem Same.refl (s : DevS) : Same s s := ⟨rfl, rfl, rfl, rfl, fun _ => rfl, fun _ => rfl⟩
/-- What the law does with the document's device at a fuse. -/
def DevS.fuseR (t : DevS) (k : Int) : DevS := if t.down then t else { t with fuse := k, fused := true, down := decide (k ≤ 0) }
theorem Same.blow {s t : DevS} (h : Same s t) (k : Int) : Same (s.blow k) (t.fuseR k) := by
  unfold DevS.blow DevS.fuseR
  have hd := h.down
  cases ht : t.down
  · rw [ht] at hd
    simp only [Bool.false_eq_true, if_false]
    exact ⟨h.now, h.was, h.loose, by simp [hd], fun _ => rfl, fun _ => rfl⟩
  · rw [ht] at hd
    simp only [if_true]
    exact ⟨h.now, h.was, h.loose, by simp [hd, ht], fun h' => by simp [hd] at h', fun h' => by simp [hd] at h'⟩
theorem fuseR_dn {t : DevS} (h : t.down = (t.fused && decide (t.fuse ≤ 0))) (k : Int) : (t.fuseR k).down = ((t.fuseR k).fused && decide ((t.fuseR k).fuse ≤ 0)) := by
  unfold DevS.fuseR
  split
  · exact h
  · simp
theorem fuseR_ok {n : Nat} {t : DevS} (h : t.Ok n) {k : Int} (h0 : -9223372036854775808 ≤ k) (h1 : k ≤ 9223372036854775807) : (t.fuseR k).Ok n := by
  unfold DevS.fuseR
  split
  · exact h
  · exact ⟨h.now, h.was, h.loose, h0, h1, fun hd _ => by simp at hd; exact hd, h.n0, h.n1⟩
section
variable (W : World) (B : Nat)
theorem rdev_WriteG (r : RD) (n : Nat) (s : DevS) (hr : r.Ok W B n s) (i : Int) (src : List Row) (A : Option Addr) (cp : Nat) (b : List UInt8) (hsrc : Src W B src A (b.map u8v)) :
    Spec Tryd.prog W B 38 [.pointer (some ⟨r.q, 0, none⟩), .int .i64 i, .slice A b.length cp] (src ++ r.rows n s) (fun v post => v = .int .i64 (s.err n i b.length) ∧ ∃ r' : RD, r'.q = r.q ∧ r'.Ok W B n (s.write n i b) ∧ post = src ++ r'.rows n (s.write n i b)) := by
  by_cases he : s.err n i b.length = 0
  · obtain ⟨hd, h0, h1, hl⟩ := DevS.err_zero he
    have hw : s.write n i b = (s.put i.toNat b).burn := by rw [DevS.write, if_pos he]
    obtain ⟨k, rfl⟩ : ∃ k : Nat, i = (k : Int) := ⟨i.toNat, by omega⟩
    rw [he, hw, hl]
    exact rdev_Write_ok W B r n s hr k (by omega) hd src A cp b hl hsrc
  · have hw : s.write n i b = s := by rw [DevS.write, if_neg he]
    rw [hw]
    refine ((rdev_Write_no W B r n s hr i A b.length cp he).frame src).mono ?_
    rintro v post ⟨q, ⟨rfl, rfl⟩, rfl⟩
    exact ⟨rfl, r, rfl, hr, rfl⟩
theorem rdev_FlushG (r : RD) (n : Nat) (s : DevS) (hr : r.Ok W B n s) :
    Spec Tryd.prog W B 39 [.pointer (some ⟨r.q, 0, none⟩)] (r.rows n s) (fun v post => v = .int .i64 s.flushE ∧ ∃ r' : RD, r'.q = r.q ∧ r'.Ok W B n (s.flush n) ∧ post = r'.rows n (s.flush n)) := by
  unfold DevS.flushE DevS.flush
  cases hd : s.down
  · simpa using rdev_Flush_ok W B r n s hr hd
  · simp only [if_true]
    exact (rdev_Flush_no W B r n s hr hd).mono fun v post h => ⟨h.1, r, rfl, hr, h.2⟩
end
end Go.Proofs.YtmgpldgldgdenaaDoor
