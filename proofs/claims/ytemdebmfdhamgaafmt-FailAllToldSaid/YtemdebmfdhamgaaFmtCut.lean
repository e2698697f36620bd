/-
  A SLICE's BEGINNING; the less of two, in a region that draws its order. No program is named here.
-/
import Derived.Test.YtemdebmfdhamgaaFmtOps3
import Derived.Test.YtemdebmfdhamgaaFmtOld
namespace Go.Proofs.YtemdebmfdhamgaaFmt
open Go.RowKit
theorem cutA_zero' (A : Option Addr) (mx sz : Nat) : cutA A mx 0 sz = A := by
  unfold cutA
  split
  · rfl
  · cases A with
    | none => rfl
    | some a => simp [Addr.add]
section
variable {P : Program} {n : Nat} {c : Ctx} {Q : Exit → Act → World → Prop} {e : Env} {h : Heap} {ops : Array Oper} {rest : List Oper} {d ty : Nat} {pos : String} {af : Array Edge}
theorem Yl.min2 {S : World → Prop} {x y : Operand} {ats : Array TypeId} {k k' : IntKind} {p q : Int} (r : Int) (hx : e.ev x = some (.int k p)) (hy : e.ev y = some (.int k' q)) (hr : (if q < p then q else p) = r) :
    Yl P n S e ⟨some d, .call { callee := .builtin .min, args := #[x, y], argTypes := ats }, ty, pos, af, none⟩ (.int k r) := fun a w hf _ => by
  subst hr
  simp only [execOp, resolve, invoke, builtin, List.map_toArray, List.map_cons, List.map_nil, hf.eval hx, hf.eval hy, Sem.run_bind, Sem.run_pure, Result.andThen_ok, run_min_int2]
theorem run_cutTo {t el sz : Nat} {x y : Operand} {A : Option Addr} {l cp : Nat} {k : IntKind} (m : Nat) {a : Act} (hf : Fr n e a) (hx : e.ev x = some (.slice A l cp)) (hy : e.ev y = some (.int k (m : Int))) (ht : P.underlying t = some (.slice el)) (hsz : (P.info? el).map (·.size) = some sz) (h1 : m ≤ l) (h2 : l ≤ cp) (w : World) :
    (execOp a.eval ⟨some d, .slice t x none (some y) none, ty, pos, af, none⟩).run P w = .ok (.value (.slice A m cp)) w := by
  have hr := run_slice_cut (P := P) (w := w) (A := A) (l := l) (cp := cp) (lo := 0) (hi := m) (mx := cp) (L := none) (H := some (.int k (m : Int))) (M := none) ht hsz (.inl ⟨rfl, rfl⟩) (.inr ⟨k, rfl⟩) (.inl ⟨rfl, rfl⟩) (Nat.zero_le _) (by omega) (Nat.le_refl _) h2
  rw [cutA_zero', Nat.sub_zero, Nat.sub_zero] at hr
  have hat : (Instr.sliceAt t (.slice A l cp) none (some (.int k (m : Int))) none).run P w = (Instr.slice t (.slice A l cp) none (some (.int k (m : Int))) none).run P w := by simp [Instr.sliceAt, run_underlying ht]
  simp only [execOp, hf.eval hx, hf.eval hy, Option.map_none, Option.map_some, Sem.run_bind, hat, hr, Result.andThen_ok]
  rfl
theorem Yl.cutTo {S : World → Prop} {t el sz : Nat} {x y : Operand} {A : Option Addr} {l cp : Nat} {k : IntKind} (m : Nat) (hx : e.ev x = some (.slice A l cp)) (hy : e.ev y = some (.int k (m : Int))) (ht : P.underlying t = some (.slice el)) (hsz : (P.info? el).map (·.size) = some sz) (h1 : m ≤ l) (h2 : l ≤ cp) :
    Yl P n S e ⟨some d, .slice t x none (some y) none, ty, pos, af, none⟩ (.slice A m cp) := fun _ w hf _ => run_cutTo m hf hx hy ht hsz h1 h2 w
theorem LW.cutTo {t el sz : Nat} {x y : Operand} {A : Option Addr} {l cp : Nat} {k : IntKind} (m : Nat) (hx : e.ev x = some (.slice A l cp)) (hy : e.ev y = some (.int k (m : Int))) (ht : P.underlying t = some (.slice el)) (hsz : (P.info? el).map (·.size) = some sz) (h1 : m ≤ l) (h2 : l ≤ cp) (hd : Nat.blt d n = true)
    (kk : LW P n c ops Q rest ((d, .slice A m cp) :: e) h) : LW P n c ops Q (⟨some d, .slice t x none (some y) none, ty, pos, af, none⟩ :: rest) e h := LW.val _ hd (fun _ w hf _ => run_cutTo m hf hx hy ht hsz h1 h2 w) kk
end
end Go.Proofs.YtemdebmfdhamgaaFmt
