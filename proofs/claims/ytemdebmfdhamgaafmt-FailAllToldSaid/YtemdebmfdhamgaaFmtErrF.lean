/-
  ERRORS: chains of *fail.at around an error number, as values and rows; the model's entries for internal/reflectlite at this program's types.
-/
import Derived.Test.YtemdebmfdhamgaaFmtExt
import Derived.Test.YtemdebmfdhamgaaFmtDevDef
import Derived.Test.YtemdebmfdhamgaaFmtProg
import Derived.RowKitTokens
namespace Go.Proofs.YtemdebmfdhamgaaFmt
open Go.RowKit Go.Extern

/-! ### Chains -/
def eno (c : Int) : Value := .iface 24 (.int .i64 c)
def chainV : List (Nat × List UInt8) → Value → Value
  | [], x => x
  | (p, _) :: _, _ => .iface 56 (.pointer (some ⟨p, 0, none⟩))
def chainR : List (Nat × List UInt8) → Value → List Row
  | [], _ => []
  | (p, s) :: r, x => cr p 58 [strV s, chainV r x] :: chainR r x
theorem chainV_iface (l : List (Nat × List UInt8)) (c : Int) : ∃ t u, chainV l (eno c) = .iface t u := by
  cases l with
  | nil => exact ⟨_, _, rfl⟩
  | cons a r => exact ⟨_, _, rfl⟩
theorem chainV_one (l : List (Nat × List UInt8)) (c : Int) : (chainV l (eno c)).oneCell' = true := by
  cases l with
  | nil => rfl
  | cons a r => rfl
theorem chainR_mem (q : List (Nat × List UInt8)) (p : Nat) (s : List UInt8) (r : List (Nat × List UInt8)) (x : Value) : cr p 58 [strV s, chainV r x] ∈ chainR (q ++ (p, s) :: r) x := by
  induction q with
  | nil => exact List.mem_cons_self
  | cons a q ih => exact List.mem_cons_of_mem _ ih

/-! ### reflectlite -/
def hd (t : Nat) : Value := .pointer (some ⟨1, t, none⟩)
def rty (t : Nat) : Value := .iface 96 (.agg #[hd t])
def rval (t b fl : Nat) : Value := .agg #[hd t, .pointer (some ⟨b, 0, none⟩), .int .u64 fl]
section
variable (w : World)
theorem valueOfP (t : Nat) : (ReflectliteValue.unpack (.iface 36 (.pointer (some ⟨t, 0, none⟩)))).run Tryf.prog w = .ok (rval 36 w.heap.size 150) (w.alloc (.cells #[.pointer (some ⟨t, 0, none⟩)] 36)) := by kernel_rfl
theorem valueOfE (c : Int) : (ReflectliteValue.unpack (eno c)).run Tryf.prog w = .ok (rval 24 w.heap.size 130) (w.alloc (.cells #[.int .i64 c] 24)) := by kernel_rfl
theorem typeP (b : Nat) : (ReflectliteValue.methodAny (ReflectliteValue.valueError "reflectlite.Value.Type" 0) (fun t _ _ _ => ReflectliteType.toType t) #[rval 36 b 150]).run Tryf.prog w = .ok (rty 36) w := by kernel_rfl
theorem kindP : (ReflectliteType.abiMethod (fun t => do pure (.int .u8 (← Rtype.kind t))) #[hd 36]).run Tryf.prog w = .ok (.int .u8 22) w := by kernel_rfl
theorem kindE : (ReflectliteType.abiMethod (fun t => do pure (.int .u8 (← Rtype.kind t))) #[hd 24]).run Tryf.prog w = .ok (.int .u8 2) w := by kernel_rfl
theorem elemP : (ReflectliteType.method ReflectliteType.elem #[.agg #[hd 36]]).run Tryf.prog w = .ok (rty 24) w := by kernel_rfl
theorem implE : (ReflectliteType.relation "Implements" ReflectliteType.implements_ #[.agg #[hd 24], rty 26]).run Tryf.prog w = .ok (.bool true) w := by kernel_rfl
theorem typeOfE (c : Int) : (ReflectliteType.typeOf #[eno c]).run Tryf.prog w = .ok (rty 24) w := by kernel_rfl
theorem typeOfA (v : Value) : (ReflectliteType.typeOf #[.iface 56 v]).run Tryf.prog w = .ok (rty 56) w := by kernel_rfl
theorem assE : (ReflectliteType.relation "AssignableTo" ReflectliteType.assignableTo #[.agg #[hd 24], rty 24]).run Tryf.prog w = .ok (.bool true) w := by kernel_rfl
theorem assA : (ReflectliteType.relation "AssignableTo" ReflectliteType.assignableTo #[.agg #[hd 56], rty 24]).run Tryf.prog w = .ok (.bool false) w := by kernel_rfl
theorem compE : (ReflectliteType.method (fun t => do Rtype.noPackHeld "Comparable" t; pure (.bool (← typeInfo t).comparable)) #[.agg #[hd 24]]).run Tryf.prog w = .ok (.bool true) w := by kernel_rfl
theorem rlm (z : Sem Value) (f : TypeId → Addr → Nat → Nat → Sem Value) (v : Value) :
    ReflectliteValue.method z f #[v] = (do match ← ReflectliteValue.parts v with | none => z | some (t, a, fl) => f t a fl (fl % 32)) := rfl
theorem partsP (b : Nat) : (ReflectliteValue.parts (rval 36 b 150)).run Tryf.prog w = .ok (some (36, ⟨b, 0, none⟩, 150)) w := by kernel_rfl
theorem isNilP (b p : Nat) (ha : w.cell? ⟨b, 0, none⟩ = some (.pointer (some ⟨p, 0, none⟩))) :
    (ReflectliteValue.method (ReflectliteValue.valueError "reflectlite.Value.IsNil" 0) ReflectliteValue.isNil #[rval 36 b 150]).run Tryf.prog w = .ok (.bool false) w := by
  rw [rlm]
  simp only [Sem.run_bind, partsP, Result.andThen]
  simp [ReflectliteValue.isNil, loadVar, isAgg, underlying, Tryf.underlying36, ha, Result.andThen]
theorem elemOfP : (Rtype.elem? 36).run Tryf.prog w = .ok (some 24) w := by kernel_rfl
theorem mkE (p : Nat) : (ReflectliteValue.mk 24 ⟨p, 0, none⟩ ReflectliteValue.flagAddr).run Tryf.prog w = .ok (rval 24 p 386) w := by kernel_rfl
theorem elemVP (b p : Nat) (ha : w.cell? ⟨b, 0, none⟩ = some (.pointer (some ⟨p, 0, none⟩))) :
    (ReflectliteValue.method (ReflectliteValue.valueError "reflectlite.Value.Elem" 0) ReflectliteValue.elem #[rval 36 b 150]).run Tryf.prog w = .ok (rval 24 p 386) w := by
  rw [rlm]
  simp only [Sem.run_bind, partsP, Result.andThen]
  simp [ReflectliteValue.elem, loadVar, isAgg, underlying, Tryf.underlying36, ha, Result.andThen, elemOfP, mkE]
theorem rls (v x : Value) : ReflectliteValue.set #[v, x] = (do
    let (some (dst, a, fl), some (src, b, _)) := (← ReflectliteValue.parts v, ← ReflectliteValue.parts x)
      | unsupported (.noEntry "extern/(internal/reflectlite.Value).Set.zeroValue")
    if fl / ReflectliteValue.flagAddr % 2 == 0 then unsupported (.noEntry "extern/(internal/reflectlite.Value).Set.unaddressable")
    let val ← loadVar src b
    if ← Rtype.directlyAssignable dst src then storeVar dst a val
    else if ← Rtype.implements dst src then
      if (← Rtype.kind src) == 20 then
        match val with
        | .nilIface => unsupported (.noEntry "extern/reflectlite: a nil value of one interface type handed on as a value of another")
        | _ => storeVar dst a val
      else storeVar dst a (.iface src val)
    else panicString ("reflectlite.Set: value of type " ++ (← Rtype.spelt src) ++ " is not assignable to type " ++ (← Rtype.spelt dst))
    pure (.tuple #[])) := rfl
theorem partsEa (b : Nat) : (ReflectliteValue.parts (rval 24 b 386)).run Tryf.prog w = .ok (some (24, ⟨b, 0, none⟩, 386)) w := by kernel_rfl
theorem partsE (b : Nat) : (ReflectliteValue.parts (rval 24 b 130)).run Tryf.prog w = .ok (some (24, ⟨b, 0, none⟩, 130)) w := by kernel_rfl
theorem directE : (Rtype.directlyAssignable 24 24).run Tryf.prog w = .ok true w := by kernel_rfl
theorem sizeE : (sizeOf 24).run Tryf.prog w = .ok 1 w := by kernel_rfl
theorem setE (t b : Nat) (c : Int) (old : Value) (hb : w.cell? ⟨b, 0, none⟩ = some (.int .i64 c)) (ht : w.cell? ⟨t, 0, none⟩ = some old) (hf : w.frozen? ⟨t, 0, none⟩ = false) :
    (ReflectliteValue.set #[rval 24 t 386, rval 24 b 130]).run Tryf.prog w = .ok (.tuple #[]) (w.setCell ⟨t, 0, none⟩ (.int .i64 c)) := by
  rw [rls]
  simp only [Sem.run_bind, partsEa, partsE, Result.andThen]
  simp [ReflectliteValue.flagAddr, loadVar, isAgg, underlying, Tryf.underlying24, hb, Result.andThen, directE, storeVar, Value.cells, storeCells, Addr.add]
  rw [run_store Tryf.prog w ⟨t, 0, none⟩ _ _ (by rfl)]
  simp [ht, hf]
end

/-! ### The entries and the methods -/
theorem xValueOf : XF Tryf.prog 29 (fun args => ReflectliteValue.unpack (args.getD 0 (.tuple #[]))) := fun args w => @run_callFunc_extern Tryf.prog 29 _ (fun args => ReflectliteValue.unpack (args.getD 0 (.tuple #[]))) Tryf.func29 (by kernel_rfl) (by kernel_rfl) (by kernel_rfl) (by kernel_rfl) args w
theorem xType : XF Tryf.prog 30 (ReflectliteValue.methodAny (ReflectliteValue.valueError "reflectlite.Value.Type" 0) (fun t _ _ _ => ReflectliteType.toType t)) := fun args w => @run_callFunc_extern Tryf.prog 30 _ (ReflectliteValue.methodAny (ReflectliteValue.valueError "reflectlite.Value.Type" 0) (fun t _ _ _ => ReflectliteType.toType t)) Tryf.func30 (by kernel_rfl) (by kernel_rfl) (by kernel_rfl) (by kernel_rfl) args w
theorem xIsNil : XF Tryf.prog 31 (ReflectliteValue.method (ReflectliteValue.valueError "reflectlite.Value.IsNil" 0) ReflectliteValue.isNil) := fun args w => @run_callFunc_extern Tryf.prog 31 _ (ReflectliteValue.method (ReflectliteValue.valueError "reflectlite.Value.IsNil" 0) ReflectliteValue.isNil) Tryf.func31 (by kernel_rfl) (by kernel_rfl) (by kernel_rfl) (by kernel_rfl) args w
theorem xKind : XF Tryf.prog 57 (ReflectliteType.abiMethod (fun t => do pure (.int .u8 (← Rtype.kind t)))) := fun args w => @run_callFunc_extern Tryf.prog 57 _ (ReflectliteType.abiMethod (fun t => do pure (.int .u8 (← Rtype.kind t)))) Tryf.func57 (by kernel_rfl) (by kernel_rfl) (by kernel_rfl) (by kernel_rfl) args w
theorem xElem : XF Tryf.prog 71 (ReflectliteType.method ReflectliteType.elem) := fun args w => @run_callFunc_extern Tryf.prog 71 _ (ReflectliteType.method ReflectliteType.elem) Tryf.func71 (by kernel_rfl) (by kernel_rfl) (by kernel_rfl) (by kernel_rfl) args w
theorem xImpl : XF Tryf.prog 72 (ReflectliteType.relation "Implements" ReflectliteType.implements_) := fun args w => @run_callFunc_extern Tryf.prog 72 _ (ReflectliteType.relation "Implements" ReflectliteType.implements_) Tryf.func72 (by kernel_rfl) (by kernel_rfl) (by kernel_rfl) (by kernel_rfl) args w
theorem xAss : XF Tryf.prog 69 (ReflectliteType.relation "AssignableTo" ReflectliteType.assignableTo) := fun args w => @run_callFunc_extern Tryf.prog 69 _ (ReflectliteType.relation "AssignableTo" ReflectliteType.assignableTo) Tryf.func69 (by kernel_rfl) (by kernel_rfl) (by kernel_rfl) (by kernel_rfl) args w
theorem xComp : XF Tryf.prog 70 (ReflectliteType.method (fun t => do Rtype.noPackHeld "Comparable" t; pure (.bool (← typeInfo t).comparable))) := fun args w => @run_callFunc_extern Tryf.prog 70 _ (ReflectliteType.method (fun t => do Rtype.noPackHeld "Comparable" t; pure (.bool (← typeInfo t).comparable))) Tryf.func70 (by kernel_rfl) (by kernel_rfl) (by kernel_rfl) (by kernel_rfl) args w
theorem xTypeOf : XF Tryf.prog 27 ReflectliteType.typeOf := fun args w => @run_callFunc_extern Tryf.prog 27 _ ReflectliteType.typeOf Tryf.func27 (by kernel_rfl) (by kernel_rfl) (by kernel_rfl) (by kernel_rfl) args w
theorem xVElem : XF Tryf.prog 40 (ReflectliteValue.method (ReflectliteValue.valueError "reflectlite.Value.Elem" 0) ReflectliteValue.elem) := fun args w => @run_callFunc_extern Tryf.prog 40 _ (ReflectliteValue.method (ReflectliteValue.valueError "reflectlite.Value.Elem" 0) ReflectliteValue.elem) Tryf.func40 (by kernel_rfl) (by kernel_rfl) (by kernel_rfl) (by kernel_rfl) args w
theorem xSet : XF Tryf.prog 41 ReflectliteValue.set := fun args w => @run_callFunc_extern Tryf.prog 41 _ ReflectliteValue.set Tryf.func41 (by kernel_rfl) (by kernel_rfl) (by kernel_rfl) (by kernel_rfl) args w
theorem mKind (t : Nat) : Meth Tryf.prog 96 (.agg #[hd t]) "Kind" 57 (hd t) := by intro w; kernel_rfl
theorem mElem (t : Nat) : Meth Tryf.prog 96 (.agg #[hd t]) "Elem" 71 (.agg #[hd t]) := by intro w; kernel_rfl
theorem mImpl (t : Nat) : Meth Tryf.prog 96 (.agg #[hd t]) "Implements" 72 (.agg #[hd t]) := by intro w; kernel_rfl
theorem mAss (t : Nat) : Meth Tryf.prog 96 (.agg #[hd t]) "AssignableTo" 69 (.agg #[hd t]) := by intro w; kernel_rfl
theorem mComp (t : Nat) : Meth Tryf.prog 96 (.agg #[hd t]) "Comparable" 70 (.agg #[hd t]) := by intro w; kernel_rfl
theorem mUnwrap (p : Nat) : Meth Tryf.prog 56 (.pointer (some ⟨p, 0, none⟩)) "Unwrap" 61 (.pointer (some ⟨p, 0, none⟩)) := by intro w; kernel_rfl
theorem noAsA (v : Value) (xT : Nat) (w : World) : (Instr.typeAssert (.iface 56 v) xT 108 true).run Tryf.prog w = .ok (.tuple #[.nilIface, .bool false]) w := run_typeAssert_lacksB Tryf.underlying108 (by kernel_rfl) (by kernel_rfl) v xT w
theorem noIsA (v : Value) (xT : Nat) (w : World) : (Instr.typeAssert (.iface 56 v) xT 98 true).run Tryf.prog w = .ok (.tuple #[.nilIface, .bool false]) w := run_typeAssert_lacksB Tryf.underlying98 (by kernel_rfl) (by kernel_rfl) v xT w
theorem unwA (v : Value) (xT : Nat) (w : World) : (Instr.typeAssert (.iface 56 v) xT 101 true).run Tryf.prog w = .ok (.tuple #[.iface 56 v, .bool true]) w := run_typeAssert_hasB Tryf.underlying101 (by kernel_rfl) v xT w
theorem noIsE (v : Value) (xT : Nat) (w : World) : (Instr.typeAssert (.iface 24 v) xT 98 true).run Tryf.prog w = .ok (.tuple #[.nilIface, .bool false]) w := run_typeAssert_lacksB Tryf.underlying98 (by kernel_rfl) (by kernel_rfl) v xT w
theorem noUnwE (v : Value) (xT : Nat) (w : World) : (Instr.typeAssert (.iface 24 v) xT 101 true).run Tryf.prog w = .ok (.tuple #[.nilIface, .bool false]) w := run_typeAssert_lacksB Tryf.underlying101 (by kernel_rfl) (by kernel_rfl) v xT w
theorem noUnwsE (v : Value) (xT : Nat) (w : World) : (Instr.typeAssert (.iface 24 v) xT 103 true).run Tryf.prog w = .ok (.tuple #[.nilIface, .bool false]) w := run_typeAssert_lacksB Tryf.underlying103 (by kernel_rfl) (by kernel_rfl) v xT w
theorem compErrno : (Tryf.prog.info? 24).map (·.comparable) = some true := by kernel_rfl
end Go.Proofs.YtemdebmfdhamgaaFmt
