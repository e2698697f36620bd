/-
  MORE OPERATIONS: the less of two numbers; a text's beginning; a number's opposite. No program is named here.
-/
import Derived.Test.YtemdebmfdhamgaaFmtOps2
import Derived.Laws.Small
import Derived.Laws.Slices
namespace Go.Proofs.YtemdebmfdhamgaaFmt
open Go.RowKit
section
variable {P : Program} {n : Nat} {c : Ctx} {Q : Exit → Act → World → Prop} {e : Env} {h : Heap} {ops : Array Oper} {rest : List Oper} {d ty : Nat} {pos : String} {af : Array Edge}
theorem LW.min2 {x y : Operand} {ats : Array TypeId} {k k' : IntKind} {p q : Int} (r : Int) (hx : e.ev x = some (.int k p)) (hy : e.ev y = some (.int k' q)) (hr : (if q < p then q else p) = r) (hd : Nat.blt d n = true) (kk : LW P n c ops Q rest ((d, .int k r) :: e) h) :
    LW P n c ops Q (⟨some d, .call { callee := .builtin .min, args := #[x, y], argTypes := ats }, ty, pos, af, none⟩ :: rest) e h :=
  LW.val _ hd (fun a w hf _ => by
    subst hr
    simp only [execOp, resolve, invoke, builtin, List.map_toArray, List.map_cons, List.map_nil, hf.eval hx, hf.eval hy, Sem.run_bind, Sem.run_pure, Result.andThen_ok, run_min_int2]) kk
theorem LW.neg {x : Operand} {t : Nat} {k : IntKind} {p : Int} (r : Int) (hx : e.ev x = some (.int k p)) (hr : k.wrap (-p) = r) (hd : Nat.blt d n = true) (kk : LW P n c ops Q rest ((d, .int k r) :: e) h) :
    LW P n c ops Q (⟨some d, .unOp .neg t x, ty, pos, af, none⟩ :: rest) e h :=
  LW.val _ hd (fun a w hf _ => by subst hr; simp [execOp, hf.eval hx, Op.unary, Op.intArith]) kk
theorem take_bytes (l : List UInt8) (k : Nat) : (⟨l.toArray⟩ : ByteArray).extract 0 k = ⟨(l.take k).toArray⟩ := by
  apply ByteArray.ext
  simp
theorem LW.strTake {t : Nat} {x y : Operand} {l : List UInt8} {ki : IntKind} (k : Nat) (hx : e.ev x = some (strV l)) (hy : e.ev y = some (.int ki (k : Int))) (ht : P.underlying t = some .string) (hk : k ≤ l.length) (hd : Nat.blt d n = true) (kk : LW P n c ops Q rest ((d, strV (l.take k)) :: e) h) :
    LW P n c ops Q (⟨some d, .slice t x none (some y) none, ty, pos, af, none⟩ :: rest) e h :=
  LW.val _ hd (fun a w hf _ => by
    have hz : ((k : Nat) : Int) ≤ ((⟨l.toArray⟩ : ByteArray).size : Int) := by simp only [ByteArray.size, List.size_toArray]; omega
    have hr := run_slice_string_h (P := P) (w := w) t (⟨l.toArray⟩ : ByteArray) ht ki (k : Int) (by omega) hz
    rw [Int.toNat_natCast, take_bytes] at hr
    have hx' := hf.eval hx
    unfold strV at hx'
    simp only [execOp, hx', Option.map_none, Option.map_some, hf.eval hy, Sem.run_bind, run_sliceAt_string w t _ _ _ _ ht, hr, Result.andThen_ok]
    rfl) kk
end
end Go.Proofs.YtemdebmfdhamgaaFmt
