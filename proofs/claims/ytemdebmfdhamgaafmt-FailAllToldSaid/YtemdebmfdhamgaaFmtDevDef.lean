/-
  A DEVICE AS A LEAN VALUE, what its methods make of it, and its rows in memory.
-/
import Derived.Test.YtemdebmfdhamgaaFmtStr
namespace Go.Proofs.YtemdebmfdhamgaaFmt
open Go.RowKit

structure DevS where
  now : List (List UInt8)
  was : List (List UInt8)
  loose : List Bool
  down : Bool
  fused : Bool
  fuse : Int

/-- n sectors of 64 bytes. -/
def Secs (n : Nat) (l : List (List UInt8)) : Prop := l.length = n ∧ ∀ x ∈ l, x.length = 64
structure DevS.Ok (n : Nat) (s : DevS) : Prop where
  now : Secs n s.now
  was : Secs n s.was
  loose : s.loose.length = n
  lo : -9223372036854775808 ≤ s.fuse
  hi : s.fuse ≤ 9223372036854775807
  live : s.down = false → s.fused = true → 0 < s.fuse
  n0 : 64 ≤ n
  n1 : n ≤ 4096

def zSec : List UInt8 := List.replicate 64 0
def DevS.zero (n : Nat) : DevS := ⟨List.replicate n zSec, List.replicate n zSec, List.replicate n false, false, false, 0⟩
def isB (n : Nat) (i : Int) : Bool := decide (0 ≤ i) && decide (i < (n : Int))
def DevS.burn (s : DevS) : DevS := if s.fused then { s with fuse := s.fuse - 1, down := decide (s.fuse - 1 ≤ 0) } else s
def DevS.put (s : DevS) (i : Nat) (b : List UInt8) : DevS := { s with now := s.now.set i b, loose := s.loose.set i true }
def DevS.err (n : Nat) (s : DevS) (i : Int) (l : Nat) : Int := if s.down then 9 else if isB n i then (if l = 64 then 0 else 1) else 2
def DevS.write (n : Nat) (s : DevS) (i : Int) (b : List UInt8) : DevS := if s.err n i b.length = 0 then (s.put i.toNat b).burn else s
def DevS.flushE (s : DevS) : Int := if s.down then 9 else 0
def DevS.saved (n : Nat) (s : DevS) : DevS := { s with was := s.now, loose := List.replicate n false }
def DevS.flush (n : Nat) (s : DevS) : DevS := if s.down then s else (s.saved n).burn
def DevS.blow (s : DevS) (k : Int) : DevS := { s with fused := true, fuse := k, down := s.down || decide (k ≤ 0) }
def looseTo (s : DevS) (m : Nat) : List Nat := (List.range m).filter fun i => s.loose.getD i false
def DevS.kept (s : DevS) (L : List Nat) (keep : List Bool) (m : Nat) : List (List UInt8) :=
  (List.range m).foldl (fun x k => if keep.getD k false then x else x.set (L.getD k 0) (s.was.getD (L.getD k 0) [])) s.now
def DevS.crash (n : Nat) (s : DevS) (keep : List Bool) : DevS :=
  let x := s.kept (looseTo s n) keep (looseTo s n).length
  ⟨x, x, List.replicate n false, false, false, 0⟩

/-! ### Sectors as bytes -/
def secV (l : List (List UInt8)) : List Value := l.flatten.map u8v
theorem flat_take (l : List (List UInt8)) (hl : ∀ x ∈ l, x.length = 64) (i : Nat) : l.flatten.take (i * 64) = (l.take i).flatten := by
  induction l generalizing i with
  | nil => simp
  | cons x r ih =>
    cases i with
    | zero => simp
    | succ i =>
      have hx := hl x (by simp)
      rw [List.flatten_cons, List.take_append, List.take_succ_cons, List.flatten_cons, ← ih (fun y hy => hl y (by simp [hy])) i, hx]
      rw [List.take_of_length_le (by omega)]
      congr 2
      omega
theorem flat_drop (l : List (List UInt8)) (hl : ∀ x ∈ l, x.length = 64) (i : Nat) : l.flatten.drop (i * 64) = (l.drop i).flatten := by
  induction l generalizing i with
  | nil => simp
  | cons x r ih =>
    cases i with
    | zero => simp
    | succ i =>
      have hx := hl x (by simp)
      rw [List.flatten_cons, List.drop_append, List.drop_succ_cons, ← ih (fun y hy => hl y (by simp [hy])) i, hx]
      rw [List.drop_eq_nil_of_le (by omega)]
      simp only [List.nil_append]
      congr 1
      omega
theorem flat_len (l : List (List UInt8)) (hl : ∀ x ∈ l, x.length = 64) : l.flatten.length = l.length * 64 := by
  induction l with
  | nil => rfl
  | cons x r ih => rw [List.flatten_cons, List.length_append, ih (fun y hy => hl y (by simp [hy])), hl x (by simp), List.length_cons]; omega
theorem secV_len {n : Nat} {l : List (List UInt8)} (h : Secs n l) : (secV l).length = n * 64 := by rw [secV, List.length_map, flat_len l h.2, h.1]
theorem secV_get {n : Nat} {l : List (List UInt8)} (h : Secs n l) {i : Nat} {x : List UInt8} (hi : l[i]? = some x) : ∀ j v, (x.map u8v)[j]? = some v → (secV l)[i * 64 + j]? = some v := by
  intro j v hj
  have h1 : (secV l).drop (i * 64) = (l.drop i).flatten.map u8v := by rw [secV, ← List.map_drop, flat_drop l h.2]
  have hlt : i < l.length := (List.getElem?_eq_some_iff.1 hi).1
  have h2 : l.drop i = x :: l.drop (i + 1) := by
    rw [List.drop_eq_getElem_cons hlt]
    congr 1
    exact (List.getElem?_eq_some_iff.1 hi).2
  rw [← List.getElem?_drop, h1, h2, List.flatten_cons, List.map_append, List.getElem?_append_left (List.getElem?_eq_some_iff.1 hj).1]
  exact hj
theorem Secs.get {n : Nat} {l : List (List UInt8)} (h : Secs n l) {i : Nat} {x : List UInt8} (hi : l[i]? = some x) : x.length = 64 := h.2 x (List.mem_of_getElem? hi)
theorem Secs.set {n : Nat} {l : List (List UInt8)} (h : Secs n l) {i : Nat} {x : List UInt8} (hx : x.length = 64) : Secs n (l.set i x) := by
  refine ⟨by rw [List.length_set]; exact h.1, fun y hy => ?_⟩
  rcases List.mem_or_eq_of_mem_set hy with h1 | rfl
  · exact h.2 _ h1
  · exact hx
theorem secV_set {n : Nat} {l : List (List UInt8)} (h : Secs n l) {i : Nat} (hi : i < n) {b : List UInt8} (_hb : b.length = 64) {o k : Nat} (ho : o = i * 64) (hk : k = i * 64 + 64) : (secV l).take o ++ b.map u8v ++ (secV l).drop k = secV (l.set i b) := by
  subst ho hk
  have h1 : i < l.length := by rw [h.1]; exact hi
  have h2 : (secV l).drop (i * 64 + 64) = (l.drop (i + 1)).flatten.map u8v := by
    rw [show i * 64 + 64 = (i + 1) * 64 by omega, secV, ← List.map_drop, flat_drop l h.2]
  rw [h2, secV, ← List.map_take, flat_take l h.2, secV, List.set_eq_take_append_cons_drop, if_pos h1]
  simp
theorem secV_rep (n : Nat) : secV (List.replicate n zSec) = List.replicate (n * 64) (u8v 0) := by
  rw [secV, zSec, List.flatten_replicate_replicate, List.map_replicate]
theorem secV_one (l : List (List UInt8)) : ∀ v ∈ secV l, v.oneCell' = true := u8vs_one _
theorem Secs.rep (n : Nat) : Secs n (List.replicate n zSec) := ⟨by simp, fun x hx => by rw [(List.mem_replicate.1 hx).2]; rfl⟩

/-! ### The rows -/
def devHead (bn bw bl n : Nat) (s : DevS) : List Value := [.slice (some ⟨bn, 0, none⟩) n n, .slice (some ⟨bw, 0, none⟩) n n, .slice (some ⟨bl, 0, none⟩) n n, .bool s.down, .bool s.fused, .int .i64 s.fuse]
def devC (p bn bw bl n : Nat) (s : DevS) : List Row :=
  [cr p 82 (devHead bn bw bl n s), cr bn 85 (secV s.now), cr bw 85 (secV s.was), cr bl 4 (s.loose.map .bool)]

theorem Sub.four {a b c d : Row} {h h1 h2 h3 h4 : Heap} (k1 : Take [a] h h1) (k2 : Take [b] h1 h2) (k3 : Take [c] h2 h3) (k4 : Take [d] h3 h4) : Sub [a, b, c, d] h.flatten :=
  Sub.take (p := [a]) k1 (Sub.take (p := [b]) k2 (Sub.take (p := [c]) k3 (Sub.one k4)))

theorem Take.four {a b c d : Row} {h h1 h2 h3 h4 : Heap} (k1 : Take [a] h h1) (k2 : Take [b] h1 h2) (k3 : Take [c] h2 h3) (k4 : Take [d] h3 h4) : Take [a, b, c, d] h h4 :=
  Take.both k1 (Take.both k2 (Take.both k3 k4))
theorem LW.open4 {P : Program} {n : Nat} {c : Ctx} {Q : Exit → Act → World → Prop} {e : Env} {h : Heap} {ops : Array Oper} {rest : List Oper} {a b d f : Row} (k : LW P n c ops Q rest e ([a] :: [b] :: [d] :: [f] :: h)) : LW P n c ops Q rest e ([a, b, d, f] :: h) := k.heap (Sub.of_perm (by simp))

theorem whole {l cs : List Value} {k : Nat} (h : l.length = cs.length) (hk : k = cs.length) : l.take 0 ++ cs ++ l.drop k = cs := by
  rw [hk, ← h]; simp
def intV (i : Nat) : Value := .int .i64 (i : Int)
section
variable {P : Program} {n : Nat} {c : Ctx} {Q : Exit → Act → World → Prop} {e : Env} {h : Heap} {ops : Array Oper} {rest : List Oper}
theorem LW.split2 {a b : List Row} (k : LW P n c ops Q rest e (a :: b :: h)) : LW P n c ops Q rest e ((a ++ b) :: h) := k.heap (Sub.of_perm (by simp))
theorem LW.split2p {x a b : List Row} (k : LW P n c ops Q rest e (x :: a :: b :: h)) : LW P n c ops Q rest e (x :: (a ++ b) :: h) := k.heap (Sub.of_perm (by simp))
theorem LW.split1 {a : Row} {b : List Row} (k : LW P n c ops Q rest e ([a] :: b :: h)) : LW P n c ops Q rest e ((a :: b) :: h) := k.heap (Sub.of_perm (by simp))
end
theorem LW.open4p {P : Program} {n : Nat} {c : Ctx} {Q : Exit → Act → World → Prop} {e : Env} {h : Heap} {ops : Array Oper} {rest : List Oper} {x : List Row} {a b d f : Row} (k : LW P n c ops Q rest e (x :: [a] :: [b] :: [d] :: [f] :: h)) : LW P n c ops Q rest e (x :: [a, b, d, f] :: h) := k.heap (Sub.of_perm (by simp))
theorem Src.some {W : World} {B : Nat} {src : List Row} {A : Option Addr} {xs : List Value} (k : Src W B src A xs) (h : 0 < xs.length) : ∃ a, A = Option.some a := by
  rcases k with rfl | ⟨a, rfl, _⟩
  · simp at h
  · exact ⟨a, rfl⟩
theorem Sub.app {p q : List Row} {h h1 : Heap} (k : Take p h h1) (s : Sub q h1.flatten) : Sub (p ++ q) h.flatten := Sub.take k s
theorem Sub.devs {a b c d : Row} {q : List Row} {h h1 h2 h3 h4 : Heap} (k1 : Take [a] h h1) (k2 : Take [b] h1 h2) (k3 : Take [c] h2 h3) (k4 : Take [d] h3 h4) (s : Sub q h4.flatten) : Sub ([a, b, c, d] ++ q) h.flatten :=
  Sub.take (Take.four k1 k2 k3 k4) s

/-! ### What is kept -/
theorem DevS.Ok.zero {n : Nat} (h0 : 64 ≤ n) (h1 : n ≤ 4096) : (DevS.zero n).Ok n :=
  { now := Secs.rep n, was := Secs.rep n, loose := by simp [DevS.zero], lo := by simp [DevS.zero], hi := by simp [DevS.zero], live := fun _ h => by simp [DevS.zero] at h, n0 := h0, n1 := h1 }
theorem DevS.Ok.burn {n : Nat} {s : DevS} (h : s.Ok n) (hd : s.down = false) : s.burn.Ok n := by
  unfold DevS.burn
  by_cases hf : s.fused = true
  · have := h.live hd hf
    have := h.hi
    rw [if_pos hf]
    refine ⟨h.now, h.was, h.loose, by simp only; omega, by simp only; omega, fun hd' _ => ?_, h.n0, h.n1⟩
    simp only [decide_eq_false_iff_not] at hd'
    simp only
    omega
  · rw [if_neg hf]; exact h
theorem DevS.Ok.put {n : Nat} {s : DevS} (h : s.Ok n) {i : Nat} {b : List UInt8} (hb : b.length = 64) : (s.put i b).Ok n :=
  ⟨h.now.set hb, h.was, by simp [DevS.put, h.loose], h.lo, h.hi, h.live, h.n0, h.n1⟩
theorem DevS.Ok.saved {n : Nat} {s : DevS} (h : s.Ok n) : (s.saved n).Ok n := ⟨h.now, h.now, by simp [DevS.saved], h.lo, h.hi, h.live, h.n0, h.n1⟩
theorem DevS.err_zero {n : Nat} {s : DevS} {i : Int} {l : Nat} (h : s.err n i l = 0) : s.down = false ∧ 0 ≤ i ∧ i < (n : Int) ∧ l = 64 := by
  unfold DevS.err isB at h
  cases hd : s.down <;> simp [hd] at h
  by_cases h0 : 0 ≤ i <;> by_cases h1 : i < (n : Int) <;> by_cases h2 : l = 64 <;> simp_all
theorem DevS.Ok.write {n : Nat} {s : DevS} (h : s.Ok n) (i : Int) (b : List UInt8) : (s.write n i b).Ok n := by
  unfold DevS.write
  split
  · rename_i he
    obtain ⟨hd, _, _, hl⟩ := DevS.err_zero he
    exact (h.put hl).burn hd
  · exact h
theorem DevS.Ok.flush {n : Nat} {s : DevS} (h : s.Ok n) : (s.flush n).Ok n := by
  unfold DevS.flush
  cases hd : s.down
  · simp; exact h.saved.burn hd
  · simp; exact h
theorem DevS.Ok.blow {n : Nat} {s : DevS} (h : s.Ok n) {k : Int} (h0 : -9223372036854775808 ≤ k) (h1 : k ≤ 9223372036854775807) : (s.blow k).Ok n :=
  ⟨h.now, h.was, h.loose, h0, h1, fun hd _ => by simp [DevS.blow] at hd; exact hd.2, h.n0, h.n1⟩
theorem DevS.kept_succ (s : DevS) (L : List Nat) (keep : List Bool) (m : Nat) : s.kept L keep (m + 1) = if keep.getD m false then s.kept L keep m else (s.kept L keep m).set (L.getD m 0) (s.was.getD (L.getD m 0) []) := by
  simp [DevS.kept, List.range_succ, List.foldl_append]
theorem looseTo_succ (s : DevS) (m : Nat) : looseTo s (m + 1) = looseTo s m ++ if s.loose.getD m false then [m] else [] := by
  simp only [looseTo, List.range_succ, List.filter_append]
  cases hq : s.loose.getD m false <;> simp [hq, -List.getD_eq_getElem?_getD]
theorem looseTo_lt {s : DevS} {m i : Nat} (h : i ∈ looseTo s m) : i < m := by
  simp [looseTo] at h
  exact h.1
theorem looseTo_len (s : DevS) (m : Nat) : (looseTo s m).length ≤ m := by
  have := List.length_filter_le (fun i => s.loose.getD i false) (List.range m)
  simpa [looseTo] using this
theorem Secs.getD {n : Nat} {l : List (List UInt8)} (h : Secs n l) {i : Nat} (hi : i < n) : l[i]? = some (l.getD i []) := by
  have : i < l.length := by rw [h.1]; exact hi
  simp [List.getD, List.getElem?_eq_getElem this]
theorem DevS.Ok.kept {n : Nat} {s : DevS} (h : s.Ok n) (keep : List Bool) (m : Nat) (hm : m ≤ (looseTo s n).length) : Secs n (s.kept (looseTo s n) keep m) := by
  induction m with
  | zero => exact h.now
  | succ m ih =>
    rw [DevS.kept_succ]
    split
    · exact ih (by omega)
    · refine (ih (by omega)).set ?_
      have hg : (looseTo s n)[m]? = some ((looseTo s n).getD m 0) := by simp [List.getD, List.getElem?_eq_getElem (show m < (looseTo s n).length by omega)]
      exact h.was.get (h.was.getD (looseTo_lt (List.mem_of_getElem? hg)))
theorem DevS.Ok.crash {n : Nat} {s : DevS} (h : s.Ok n) (keep : List Bool) : (s.crash n keep).Ok n :=
  ⟨h.kept keep _ (Nat.le_refl _), h.kept keep _ (Nat.le_refl _), by simp [DevS.crash], by simp [DevS.crash], by simp [DevS.crash], fun _ hf => by simp [DevS.crash] at hf, h.n0, h.n1⟩
end Go.Proofs.YtemdebmfdhamgaaFmt
