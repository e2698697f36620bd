/-
  CHAINS OF ERRORS OF TWO KINDS, *fail.at and *fmt.wrapError, around an error number or around a plain error: values and rows; what the library asks of them.
-/
import Derived.Test.YtemdebmfdhamgaaFmtFErr
import Derived.Test.YtemdebmfdhamgaaFmtFail2
namespace Go.Proofs.YtemdebmfdhamgaaFmt
open Go.RowKit Go.Extern
namespace FactsFChain
theorem fa129_1 (b o : Nat) (w : World) : (Instr.fieldAt 129 (.pointer (some ⟨b, o, none⟩)) 1).run Tryf.prog w = .ok (.pointer (some ⟨b, o + 1, none⟩)) w := by kernel_rfl
theorem fname61 : (Tryf.f61.name == "runtime.NumGoroutine") = false := by kernel_rfl
theorem fname67 : (Tryf.f67.name == "runtime.NumGoroutine") = false := by kernel_rfl
theorem one26 : oneB Tryf.prog 26 = true := by kernel_rfl
end FactsFChain
abbrev Lk := Bool × Nat × List UInt8
def lkT : Bool → Nat
  | true => 94
  | false => 56
def lkS : Bool → Nat
  | true => 129
  | false => 58
def lkU : Bool → Nat
  | true => 67
  | false => 61
def cV : List Lk → Value → Value
  | [], x => x
  | (b, p, _) :: _, _ => .iface (lkT b) (.pointer (some ⟨p, 0, none⟩))
def cR : List Lk → Value → List Row
  | [], _ => []
  | (b, p, s) :: r, x => cr p (lkS b) [strV s, cV r x] :: cR r x
/-- A plain error. -/
def plV (p : Nat) : Value := .iface 76 (.pointer (some ⟨p, 0, none⟩))
def IsE (x : Value) : Prop := ∃ t u, x = .iface t u
theorem eno_isE (c : Int) : IsE (eno c) := ⟨_, _, rfl⟩
theorem plV_isE (p : Nat) : IsE (plV p) := ⟨_, _, rfl⟩
theorem cV_isE (l : List Lk) {x : Value} (h : IsE x) : IsE (cV l x) := by
  cases l with
  | nil => exact h
  | cons a r => exact ⟨_, _, rfl⟩
theorem cV_one (l : List Lk) {x : Value} (h : IsE x) : (cV l x).oneCell' = true := by
  obtain ⟨t, u, hh⟩ := cV_isE l h
  rw [hh]; rfl
theorem cR_mem (q : List Lk) (b : Bool) (p : Nat) (s : List UInt8) (r : List Lk) (x : Value) : cr p (lkS b) [strV s, cV r x] ∈ cR (q ++ (b, p, s) :: r) x := by
  induction q with
  | nil => exact List.mem_cons_self
  | cons a q ih => exact List.mem_cons_of_mem _ ih
theorem typeOfL (b : Bool) (v : Value) (w : World) : (ReflectliteType.typeOf #[.iface (lkT b) v]).run Tryf.prog w = .ok (rty (lkT b)) w := by cases b <;> kernel_rfl
theorem typeOfP (p : Nat) (w : World) : (ReflectliteType.typeOf #[plV p]).run Tryf.prog w = .ok (rty 76) w := by kernel_rfl
theorem assL (b : Bool) (w : World) : (ReflectliteType.relation "AssignableTo" ReflectliteType.assignableTo #[.agg #[hd (lkT b)], rty 24]).run Tryf.prog w = .ok (.bool false) w := by cases b <;> kernel_rfl
theorem assP (w : World) : (ReflectliteType.relation "AssignableTo" ReflectliteType.assignableTo #[.agg #[hd 76], rty 24]).run Tryf.prog w = .ok (.bool false) w := by kernel_rfl
theorem compP (w : World) : (ReflectliteType.method (fun t => do Rtype.noPackHeld "Comparable" t; pure (.bool (← typeInfo t).comparable)) #[.agg #[hd 76]]).run Tryf.prog w = .ok (.bool true) w := by kernel_rfl
theorem mUnwrapL (b : Bool) (p : Nat) : Meth Tryf.prog (lkT b) (.pointer (some ⟨p, 0, none⟩)) "Unwrap" (lkU b) (.pointer (some ⟨p, 0, none⟩)) := by cases b <;> (intro w; kernel_rfl)
theorem lk_fn (b : Bool) : ∃ fn code, Tryf.prog.funcs[lkU b]? = some fn ∧ fn.body = some code ∧ (fn.name == "runtime.NumGoroutine") = false := by
  cases b
  · exact ⟨_, _, Tryf.func61, rfl, FactsFChain.fname61⟩
  · exact ⟨_, _, Tryf.func67, rfl, FactsFChain.fname67⟩
theorem noAsL (b : Bool) (v : Value) (xT : Nat) (w : World) : (Instr.typeAssert (.iface (lkT b) v) xT 108 true).run Tryf.prog w = .ok (.tuple #[.nilIface, .bool false]) w := by
  cases b <;> exact run_typeAssert_lacksB Tryf.underlying108 (by kernel_rfl) (by kernel_rfl) v xT w
theorem noAsP (v : Value) (xT : Nat) (w : World) : (Instr.typeAssert (.iface 76 v) xT 108 true).run Tryf.prog w = .ok (.tuple #[.nilIface, .bool false]) w :=
  run_typeAssert_lacksB Tryf.underlying108 (by kernel_rfl) (by kernel_rfl) v xT w
theorem noIsL (b : Bool) (v : Value) (xT : Nat) (w : World) : (Instr.typeAssert (.iface (lkT b) v) xT 98 true).run Tryf.prog w = .ok (.tuple #[.nilIface, .bool false]) w := by
  cases b <;> exact run_typeAssert_lacksB Tryf.underlying98 (by kernel_rfl) (by kernel_rfl) v xT w
theorem unwL (b : Bool) (v : Value) (xT : Nat) (w : World) : (Instr.typeAssert (.iface (lkT b) v) xT 101 true).run Tryf.prog w = .ok (.tuple #[.iface (lkT b) v, .bool true]) w := by
  cases b <;> exact run_typeAssert_hasB Tryf.underlying101 (by kernel_rfl) v xT w
theorem noUnwP (v : Value) (xT : Nat) (w : World) : (Instr.typeAssert (.iface 76 v) xT 101 true).run Tryf.prog w = .ok (.tuple #[.nilIface, .bool false]) w := run_typeAssert_lacksB Tryf.underlying101 (by kernel_rfl) (by kernel_rfl) v xT w
theorem noUnwsP (v : Value) (xT : Nat) (w : World) : (Instr.typeAssert (.iface 76 v) xT 103 true).run Tryf.prog w = .ok (.tuple #[.nilIface, .bool false]) w := run_typeAssert_lacksB Tryf.underlying103 (by kernel_rfl) (by kernel_rfl) v xT w
theorem compPl : (Tryf.prog.info? 76).map (·.comparable) = some true := by kernel_rfl
theorem sizePl (w : World) : (sizeOf 78).run Tryf.prog w = .ok 1 w := by kernel_rfl
theorem lkT_ne (b : Bool) : lkT b ≠ 24 ∧ lkT b ≠ 76 := by cases b <;> decide
section
variable (W : World) (B : Nat)
theorem wr_Unwrap (p : Nat) (s : List UInt8) (v : Value) (rows : List Row) (hm : cr p 129 [strV s, v] ∈ rows) :
    Spec Tryf.prog W B 67 [.pointer (some ⟨p, 0, none⟩)] rows (fun r post => r = v ∧ post = rows) := by
  refine Spec.enter ([rows]) Tryf.func67 rfl Tryf.ntmps67 rfl (by first | rfl | simp) (fun w0 => ?_)
  refine CW.seq ?_
  refine CW.region ?_
  refine LW.assign rfl rfl ?_
  refine LW.nil ?_
  refine NW.then_ ?_
  refine CW.seq ?_
  refine CW.region ?_
  refine LW.move rfl rfl ?_
  refine LW.nilPtr rfl rfl ?_
  refine LW.fieldAddr _ rfl (fun _ => FactsFChain.fa129_1 _ _ _) rfl ?_
  refine LW.loadIn rfl (by simpa using hm) rfl FactsFChain.one26 rfl ?_
  refine LW.assign rfl rfl ?_
  refine LW.nil ?_
  refine NW.then_ ?_
  refine CW.ret ?_
  refine NW.ret1 rfl rfl ⟨_, ⟨rfl, rfl⟩, ?_⟩
  exact Sub.one (by repeat (first | exact Take.head _ _ | apply Take.tail))
theorem lk_Unwrap (b : Bool) (p : Nat) (s : List UInt8) (v : Value) (rows : List Row) (hm : cr p (lkS b) [strV s, v] ∈ rows) :
    Spec Tryf.prog W B (lkU b) [.pointer (some ⟨p, 0, none⟩)] rows (fun r post => r = v ∧ post = rows) := by
  cases b
  · exact at_Unwrap W B p s v rows hm
  · exact wr_Unwrap W B p s v rows hm
end
end Go.Proofs.YtemdebmfdhamgaaFmt
