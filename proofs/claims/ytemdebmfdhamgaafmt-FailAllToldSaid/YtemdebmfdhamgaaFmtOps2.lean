/-
  MORE OPERATIONS: bools compared; remainders that are not below nought. No program is named here.
-/
import Derived.Test.YtemdebmfdhamgaaFmtExt
namespace Go.Proofs.YtemdebmfdhamgaaFmt
open Go.RowKit
section
variable {P : Program} {n : Nat} {c : Ctx} {Q : Exit → Act → World → Prop} {e : Env} {h : Heap} {ops : Array Oper} {rest : List Oper} {d ty : Nat} {pos : String} {af : Array Edge}
theorem LW.boolEql {xt yt : Nat} {x y : Operand} {a b : Bool} (r : Bool) (hx : e.ev x = some (.bool a)) (hy : e.ev y = some (.bool b)) (ht : P.underlying xt = some .bool) (hr : (a == b) = r) (hd : Nat.blt d n = true) (k : LW P n c ops Q rest ((d, .bool r) :: e) h) :
    LW P n c ops Q (⟨some d, .binOp .eql xt x y yt, ty, pos, af, none⟩ :: rest) e h :=
  LW.val _ hd (fun a1 w1 hf _ => by
    subst hr
    have hq : ∀ m, (Op.equalIn (m + 1) xt (.bool a) (.bool b)).run P w1 = .ok (a == b) w1 := fun m => by simp [Op.equalIn, run_underlying ht]
    simp [execOp, hf.eval hx, hf.eval hy, eqGuard_at_bool, binOp, Op.equal, Op.maxDepth, hq 9999, Result.andThen]) k
theorem LW.boolNeq {xt yt : Nat} {x y : Operand} {a b : Bool} (r : Bool) (hx : e.ev x = some (.bool a)) (hy : e.ev y = some (.bool b)) (ht : P.underlying xt = some .bool) (hr : (a != b) = r) (hd : Nat.blt d n = true) (k : LW P n c ops Q rest ((d, .bool r) :: e) h) :
    LW P n c ops Q (⟨some d, .binOp .neq xt x y yt, ty, pos, af, none⟩ :: rest) e h :=
  LW.val _ hd (fun a1 w1 hf _ => by
    subst hr
    have hq : ∀ m, (Op.equalIn (m + 1) xt (.bool a) (.bool b)).run P w1 = .ok (a == b) w1 := fun m => by simp [Op.equalIn, run_underlying ht]
    simp [execOp, hf.eval hx, hf.eval hy, eqGuard_at_bool, binOp, Op.equal, Op.maxDepth, hq 9999, Result.andThen]
    cases a <;> cases b <;> rfl) k
end
/-- '(i % m + m) % m'. -/
theorem mod_pos (i m : Int) (hm : 0 < m) (_hm2 : m < 1000000000) : ∃ k : Nat, (i.tmod m + m).tmod m = (k : Int) ∧ (k : Int) < m ∧ -m < i.tmod m ∧ i.tmod m < m := by
  have h1 := Int.tmod_lt_of_pos i hm
  have h2 := Int.lt_tmod_of_pos i hm
  have h3 := Int.tmod_lt_of_pos (i.tmod m + m) hm
  have h4 := Int.tmod_nonneg m (show (0 : Int) ≤ i.tmod m + m by omega)
  exact ⟨((i.tmod m + m).tmod m).toNat, by omega, by omega, by omega, h1⟩
end Go.Proofs.YtemdebmfdhamgaaFmt
