/-
  REGIONS THAT DRAW THEIR ORDER: a run of operations that only read is taken first at once. No program is named here.
-/
import Derived.Test.YtemdebmfdhamgaaFmtUndef
namespace Go.Proofs.YtemdebmfdhamgaaFmt
open Go.RowKit

/-- These may be taken first, one behind the other. -/
def takesB (ops : Array Oper) : List Nat → Array Bool → Bool
  | [], _ => true
  | i :: is, listed => Region.free .any ops listed i && ((Region.ready .any ops listed).contains i && takesB ops is (listed.setIfInBounds i true))
def listedBy : List Nat → Array Bool → Array Bool
  | [], listed => listed
  | i :: is, listed => listedBy is (listed.setIfInBounds i true)

/-- One behind the other they come to their values. -/
def TW (P : Program) (n : Nat) (S : World → Prop) (ops : Array Oper) : List Nat → Env → (Env → Prop) → Prop
  | [], e, K => K e
  | i :: is, e, K => ∃ o d v, ops[i]? = some o ∧ o.dst = some d ∧ Nat.blt d n = true ∧ (∀ a, Fr n e a → YieldsIf P ops S o v a) ∧ TW P n S ops is ((d, v) :: e) K

section
variable {P : Program} {n : Nat} {c : Ctx} {Q : Exit → Act → World → Prop} {e : Env} {h : Heap} {ops : Array Oper} {S : World → Prop} {fuel : Nat} {listed : Array Bool}

theorem AW.takes (is : List Nat) (m : Nat) (hs : Region.noSelect ops = true) (hb : takesB ops is listed = true) (hfuel : fuel = m + is.length) (hQ : PO Q) (hS : ∀ w, St c h w → S w)
    (k : TW P n S ops is e (fun e' => AW P n c ops Q S m (listedBy is listed) e' h)) : AW P n c ops Q S fuel listed e h := by
  induction is generalizing listed e fuel with
  | nil => simp at hfuel; subst hfuel; exact k
  | cons i is ih =>
    obtain ⟨o, d, v, hi, hod, hd, hy, k⟩ := k
    simp only [takesB, Bool.and_eq_true] at hb
    obtain ⟨hf, hr, hb⟩ := hb
    have hfu : fuel = (m + is.length) + 1 := by rw [hfuel]; simp; omega
    subst hfu
    intro a w hfr hst
    refine wpAnyH_take hi hs hf hr (fun ch a' w' hq => by rw [hod] at hq; exact hQ ch d v a' w' hq) (hy a hfr) (hS w hst) ?_
    have := ih (fuel := m + is.length) hb rfl k
    rw [hod]
    exact this _ _ (hfr.put d v hd) hst

variable {K : Env → Prop} {is : List Nat} {i d ty : Nat} {op : Op} {pos : String} {af : Array Edge} {v : Value}
theorem TW.nil (k : K e) : TW P n S ops [] e K := k
theorem TW.take (hi : ops[i]? = some ⟨some d, op, ty, pos, af, none⟩) (hy : Yl P n S e ⟨some d, op, ty, pos, af, none⟩ v) (hd : Nat.blt d n = true) (k : TW P n S ops is ((d, v) :: e) K) : TW P n S ops (i :: is) e K :=
  ⟨_, d, v, hi, rfl, hd, fun a hf => .inl ⟨rfl, fun w hw => hy a w hf hw⟩, k⟩
theorem TW.on {j : Nat} {want : Bool} (sl : Nat) (hi : ops[i]? = some ⟨some d, op, ty, pos, af, some (j, want)⟩) (hj : (ops[j]?).bind (·.dst) = some sl) (hv : e.get sl = some (.bool want)) (hy : Yl P n S e ⟨some d, op, ty, pos, af, none⟩ v) (hd : Nat.blt d n = true)
    (k : TW P n S ops is ((d, v) :: e) K) : TW P n S ops (i :: is) e K :=
  ⟨_, d, v, hi, rfl, hd, fun a hf => .inl ⟨by simp [Region.wanted, yielded_of hf hj hv], fun w hw => hy a w hf hw⟩, k⟩
theorem TW.off {j : Nat} {want q : Bool} (sl : Nat) (hi : ops[i]? = some ⟨some d, op, ty, pos, af, some (j, want)⟩) (hj : (ops[j]?).bind (·.dst) = some sl) (hv : e.get sl = some (.bool q)) (hq : (q == want) = false) (hd : Nat.blt d n = true)
    (k : TW P n S ops is ((d, undef) :: e) K) : TW P n S ops (i :: is) e K :=
  ⟨_, d, undef, hi, rfl, hd, fun a hf => .inr ⟨by
    simp only [Region.wanted, yielded_of hf hj hv]
    cases q <;> cases want <;> first | rfl | (simp at hq), rfl⟩, k⟩
theorem TW.offU {j : Nat} {want : Bool} (sl : Nat) (hi : ops[i]? = some ⟨some d, op, ty, pos, af, some (j, want)⟩) (hj : (ops[j]?).bind (·.dst) = some sl) (hv : e.get sl = some undef) (hd : Nat.blt d n = true)
    (k : TW P n S ops is ((d, undef) :: e) K) : TW P n S ops (i :: is) e K :=
  ⟨_, d, undef, hi, rfl, hd, fun a hf => .inr ⟨by
    simp only [Region.wanted, yielded_undef hf hj hv]
    rfl, rfl⟩, k⟩
end
end Go.Proofs.YtemdebmfdhamgaaFmt
