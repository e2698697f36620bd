/-
  MORE OPERATIONS: the greater of two numbers; a whole struct out of old memory. No program is named here.
-/
import Derived.Test.YtemdebmfdhamgaaFmtAuto
namespace Go.Proofs.YtemdebmfdhamgaaFmt
open Go.RowKit
section
variable {P : Program} {n : Nat} {c : Ctx} {Q : Exit → Act → World → Prop} {e : Env} {h : Heap} {ops : Array Oper} {rest : List Oper} {d ty : Nat} {pos : String} {af : Array Edge}
theorem LW.max2 {x y : Operand} {ats : Array TypeId} {k k' : IntKind} {p q : Int} (r : Int) (hx : e.ev x = some (.int k p)) (hy : e.ev y = some (.int k' q)) (hr : (if q > p then q else p) = r) (hd : Nat.blt d n = true) (kk : LW P n c ops Q rest ((d, .int k r) :: e) h) :
    LW P n c ops Q (⟨some d, .call { callee := .builtin .max, args := #[x, y], argTypes := ats }, ty, pos, af, none⟩ :: rest) e h :=
  LW.val _ hd (fun a w hf _ => by
    subst hr
    simp only [execOp, resolve, invoke, builtin, List.map_toArray, List.map_cons, List.map_nil, hf.eval hx, hf.eval hy, Sem.run_bind, Sem.run_pure, Result.andThen_ok, run_max_int2]) kk
theorem run_loadAt_aggA {t : TypeId} {w : World} {a : Addr} {td : TypeDesc} {cs : List Value} (hu : P.underlying t = some td) (hg : (match td with | .struct _ | .array _ _ => true | _ => false) = true) (hz : (P.info? t).map (·.size) = some cs.length)
    (hv : ∀ j v, cs[j]? = some v → w.cell? (a.add j) = some v) : (Instr.loadAt t (.pointer (some a))).run P w = .ok (.agg cs.toArray) w := by
  obtain ⟨i, hi, hs⟩ := Option.map_eq_some_iff.1 hz
  have hagg : (isAgg t).run P w = .ok true w := by
    unfold isAgg
    rw [Sem.run_bind, run_underlying hu w]
    cases td <;> simp_all
  have hl := run_loadCells_list (P := P) w a cs hv
  simp [Instr.loadAt, Instr.sureAddr, loadVar, hagg, sizeOf, typeInfo, hi, hs, hl]
theorem LW.loadAggOld {t : Nat} {x : Operand} {a : Addr} {td : TypeDesc} (cs : List Value) (hx : e.ev x = some (.pointer (some a))) (hb : a.block < c.B) (hv : ∀ j v, cs[j]? = some v → c.W.cell? (a.add j) = some v)
    (hu : P.underlying t = some td) (hg : (match td with | .struct _ | .array _ _ => true | _ => false) = true) (hz : (P.info? t).map (·.size) = some cs.length)
    (hd : Nat.blt d n = true) (k : LW P n c ops Q rest ((d, .agg cs.toArray) :: e) h) : LW P n c ops Q (⟨some d, .load t x, ty, pos, af, none⟩ :: rest) e h :=
  LW.val _ hd (fun a1 w hf s => by
    have hr := run_loadAt_aggA (P := P) (w := w) (a := a) hu hg hz (fun j v hj => (World.cell?_of_block (w := c.W) (s.old.block _ (by rw [block_of_add]; exact hb))).trans (hv j v hj))
    simp [execOp, hf.eval hx, hr]) k
end
end Go.Proofs.YtemdebmfdhamgaaFmt
