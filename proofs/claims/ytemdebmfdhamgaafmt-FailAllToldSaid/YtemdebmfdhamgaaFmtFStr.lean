/-
  MORE OPERATIONS: two texts strung together; a cell of an array by value; two pointers behind an interface compared; a call of an entry that goes on in turns. No program is named here.
-/
import Derived.Test.YtemdebmfdhamgaaFmtOps4
import Derived.Laws.Concat
import Derived.Stop.CallBack
namespace Go.Proofs.YtemdebmfdhamgaaFmt
open Go.RowKit
section
variable {P : Program} {n : Nat} {c : Ctx} {Q : Exit → Act → World → Prop} {e : Env} {h : Heap} {ops : Array Oper} {rest : List Oper} {d ty : Nat} {pos : String} {af : Array Edge}
theorem run_strAdd {a b : List UInt8} (hl : a.length + b.length ≤ 9223372036854775807) (t : TypeId) (w : World) : (binOp .add t (strV a) (strV b)).run P w = .ok (strV (a ++ b)) w := by
  unfold strV
  rw [binOp_string_add, run_string_add_sum w _ _ (by simpa [ByteArray.size] using hl), ByteArray.mk_append_mk]
theorem eqGuard_add (xt : Nat) (x y : Operand) (a b : List UInt8) : eqGuard .add xt x y (strV a) (strV b) = pure () := by
  simp [eqGuard]
theorem LW.strAdd {xt yt : Nat} {x y : Operand} {a b : List UInt8} (hx : e.ev x = some (strV a)) (hy : e.ev y = some (strV b)) (hl : a.length + b.length ≤ 9223372036854775807) (hd : Nat.blt d n = true) (k : LW P n c ops Q rest ((d, strV (a ++ b)) :: e) h) :
    LW P n c ops Q (⟨some d, .binOp .add xt x y yt, ty, pos, af, none⟩ :: rest) e h :=
  LW.val _ hd (fun w hw hf _ => by simp [execOp, hf.eval hx, hf.eval hy, eqGuard_add, run_strAdd hl]) k
theorem Yl.strAdd {S : World → Prop} {xt yt : Nat} {x y : Operand} {a b : List UInt8} (hx : e.ev x = some (strV a)) (hy : e.ev y = some (strV b)) (hl : a.length + b.length ≤ 9223372036854775807) :
    Yl P n S e ⟨some d, .binOp .add xt x y yt, ty, pos, af, none⟩ (strV (a ++ b)) := fun w hw hf _ => by simp [execOp, hf.eval hx, hf.eval hy, eqGuard_add, run_strAdd hl]
theorem LW.indexArr {t el m : Nat} {x y : Operand} {cs : Array Value} {ki : IntKind} {p : Int} {v : Value} (i : Nat) (hx : e.ev x = some (.agg cs)) (hy : e.ev y = some (.int ki p)) (hp : p = (i : Int)) (ht : P.underlying t = some (.array m el)) (hi : i < m) (h1 : ∀ w, (isAgg el).run P w = .ok false w) (hz : (P.info? el).map (·.size) = some 1) (hv : cs[i]? = some v)
    (hd : Nat.blt d n = true) (k : LW P n c ops Q rest ((d, v) :: e) h) : LW P n c ops Q (⟨some d, .index t x y, ty, pos, af, none⟩ :: rest) e h :=
  LW.val v hd (fun a w hf _ => by
    subst hp
    obtain ⟨j, hj, hjs⟩ := Option.map_eq_some_iff.1 hz
    have hin : (0 : Int) ≤ (i : Int) ∧ (i : Int) < (m : Int) := by omega
    simp [execOp, hf.eval hx, hf.eval hy, Instr.index, run_underlying ht, asIntOf, sizeOf, typeInfo, hj, hjs, hi, part, hv, h1]) k
def RSpec (P : Program) (W : World) (B : Nat) (f : FuncId) (args : List Value) (pre : List Row) (R : Value → List Row → Prop) : Prop :=
  ∀ w, Old W B w → RowsOk B pre w → ∃ row sv, (callFunc f args.toArray).run P w = .ok (.row row sv) w ∧ Rows P row sv w fun v w' => ∃ post, R v post ∧ Ext B w (pre.map (·.b)) post w'
theorem LW.callRow {f : Nat} {xs : List Operand} {ats : Array TypeId} {args : List Value} {pre : List Row} {R : Value → List Row → Prop} {h' : Heap} (spec : RSpec P c.W c.B f args pre R) (hargs : e.Evs xs args) (tk : Take pre h h') (hd : Nat.blt d n = true)
    (k : ∀ v post, R v post → LW P n c ops Q rest ((d, v) :: e) (post :: h')) :
    LW P n c ops Q (⟨some d, .call { callee := .value (.func f), args := xs.toArray, argTypes := ats }, ty, pos, af, none⟩ :: rest) e h := fun a w hf s =>
  wpList_plain rfl fun K hK => by
    have hmap : xs.toArray.map a.eval = args.toArray := evs_arr hf hargs
    have hpre : RowsOk c.B pre w := s.ext.rows.sub ⟨h'.flatten, tk⟩
    obtain ⟨row, sv, hc, hr⟩ := spec w s.old hpre
    have hrun : (execOp a.eval ⟨some d, .call { callee := .value (.func f), args := xs.toArray, argTypes := ats }, ty, pos, af, none⟩).run P w = .ok (.row row sv) w := by
      have he : a.eval (.func f) = .func (.func f) #[] #[] := rfl
      simp only [execOp, resolve, he, Deferred.ofValue, hmap]
      simp [invoke, hc]
    unfold Oper.wp
    rw [hrun, Oper.upon_row]
    exact hr.mono fun v w' ⟨post, hR, hx⟩ => hK _ _ (k v post hR _ _ (hf.put d v hd) (s.called tk hx))
theorem run_eql_iface_ptr {ti t el : TypeId} {ms : Array (String × TypeId)} {p : Addr} (hi : P.underlying ti = some (.interface ms)) (ht : P.underlying t = some (.pointer el)) (hc : (P.info? t).map (·.comparable) = some true) (hz : ∀ w, (sizeOf el).run P w = .ok 1 w) (w : World) :
    (binOp .eql ti (.iface t (.pointer (some p))) (.iface t (.pointer (some p)))).run P w = .ok (.bool true) w := by
  obtain ⟨i, hi', hc'⟩ := Option.map_eq_some_iff.1 hc
  have h2 : ∀ d : Nat, (Op.equalIn (d + 2) ti (.iface t (.pointer (some p))) (.iface t (.pointer (some p)))).run P w = .ok true w := fun d => by
    simp [Op.equalIn, run_underlying hi, typeInfo, hi', hc', run_underlying ht, hz, sameAddr]
  simp only [binOp]
  simp [Op.equal, Op.maxDepth, h2 9998]
theorem LW.ifaceEqPtr {xt yt t el : Nat} {x y : Operand} {p : Addr} {ms : Array (String × TypeId)} (hx : e.ev x = some (.iface t (.pointer (some p)))) (hy : e.ev y = some (.iface t (.pointer (some p)))) (hi : P.underlying xt = some (.interface ms)) (ht : P.underlying t = some (.pointer el)) (hc : (P.info? t).map (·.comparable) = some true) (hz : ∀ w, (sizeOf el).run P w = .ok 1 w) (hd : Nat.blt d n = true)
    (k : LW P n c ops Q rest ((d, .bool true) :: e) h) : LW P n c ops Q (⟨some d, .binOp .eql xt x y yt, ty, pos, af, none⟩ :: rest) e h :=
  LW.val _ hd (fun a w hf _ => by simp [execOp, hf.eval hx, hf.eval hy, eqGuard_at_iface, run_eql_iface_ptr hi ht hc hz, Result.andThen]) k
end
end Go.Proofs.YtemdebmfdhamgaaFmt
