/-
  What is called on nothing; PartsNone, walked.
-/
import Derived.Test.YtmgpldgldgdenaaDoorBegun
namespace Go.Proofs.YtmgpldgldgdenaaDoor
open Go.RowKit
namespace FactsLawNone
theorem concrete28 : Tryd.prog.concrete 28 = true := by kernel_rfl
theorem fname16 : (Tryd.f16.name == "runtime.NumGoroutine") = false := by kernel_rfl
theorem fname17 : (Tryd.f17.name == "runtime.NumGoroutine") = false := by kernel_rfl
theorem fname19 : (Tryd.f19.name == "runtime.NumGoroutine") = false := by kernel_rfl
theorem fname20 : (Tryd.f20.name == "runtime.NumGoroutine") = false := by kernel_rfl
theorem fname21 : (Tryd.f21.name == "runtime.NumGoroutine") = false := by kernel_rfl
theorem fname22 : (Tryd.f22.name == "runtime.NumGoroutine") = false := by kernel_rfl
theorem fname23 : (Tryd.f23.name == "runtime.NumGoroutine") = false := by kernel_rfl
theorem fname24 : (Tryd.f24.name == "runtime.NumGoroutine") = false := by kernel_rfl
theorem fname26 : (Tryd.f26.name == "runtime.NumGoroutine") = false := by kernel_rfl
theorem fname29 : (Tryd.f29.name == "runtime.NumGoroutine") = false := by kernel_rfl
theorem fname31 : (Tryd.f31.name == "runtime.NumGoroutine") = false := by kernel_rfl
theorem fname32 : (Tryd.f32.name == "runtime.NumGoroutine") = false := by kernel_rfl
theorem fname33 : (Tryd.f33.name == "runtime.NumGoroutine") = false := by kernel_rfl
theorem fname34 : (Tryd.f34.name == "runtime.NumGoroutine") = false := by kernel_rfl
theorem fname36 : (Tryd.f36.name == "runtime.NumGoroutine") = false := by kernel_rfl
theorem fname40 : (Tryd.f40.name == "runtime.NumGoroutine") = false := by kernel_rfl
theorem fname44 : (Tryd.f44.name == "runtime.NumGoroutine") = false := by kernel_rfl
theorem fname46 : (Tryd.f46.name == "runtime.NumGoroutine") = false := by kernel_rfl
theorem fname47 : (Tryd.f47.name == "runtime.NumGoroutine") = false := by kernel_rfl
theorem fname48 : (Tryd.f48.name == "runtime.NumGoroutine") = false := by kernel_rfl
theorem info2 : (Tryd.prog.info? 2).map (fun i => (i.zero, i.size, i.bytes)) = some (some (.int .i64 0), 1, 8) := by kernel_rfl
end FactsLawNone
section
variable (W : World) (B : Nat)
theorem devN_Read (i : Int) : Spec Tryd.prog W B 20 [.pointer none, .int .i64 i] [] (fun v post => v = .tuple #[.slice none 0 0, .int .i64 9] ∧ post = []) := by
  refine Spec.enter ([]) Tryd.func20 rfl Tryd.ntmps20 rfl (by first | rfl | simp) (fun w0 => ?_)
  refine CW.seq ?_
  refine CW.region ?_
  refine LW.assign rfl rfl ?_
  refine LW.assign rfl rfl ?_
  refine LW.nil ?_
  refine NW.then_ ?_
  refine CW.seq ?_
  refine CW.block ?_
  refine CW.seq ?_
  refine CW.region ?_
  refine LW.move rfl rfl ?_
  refine LW.ptrNil _ rfl Tryd.underlying24 rfl rfl ?_
  refine LW.assign rfl rfl ?_
  refine LW.nil ?_
  refine NW.then_ ?_
  refine CW.cond_true rfl ?_
  refine CW.seq ?_
  refine CW.region ?_
  refine LW.assign rfl rfl ?_
  refine LW.assign rfl rfl ?_
  refine LW.nil ?_
  refine NW.then_ ?_
  refine CW.ret ?_
  refine NW.block_ret ?_
  refine NW.then_ret ?_
  refine NW.ret2 rfl rfl rfl ⟨_, ⟨rfl, rfl⟩, ?_⟩
  exact Sub.nil _
theorem devN_Fuse (i : Int) : Spec Tryd.prog W B 40 [.pointer none, .int .i64 i] [] (fun v post => v = .tuple #[] ∧ post = []) := by
  refine Spec.enter ([]) Tryd.func40 rfl Tryd.ntmps40 rfl (by first | rfl | simp) (fun w0 => ?_)
  refine CW.seq ?_
  refine CW.seq ?_
  refine CW.region ?_
  refine LW.move rfl rfl ?_
  refine LW.ptrNil _ rfl Tryd.underlying24 rfl rfl ?_
  refine LW.nil ?_
  refine NW.then_ ?_
  refine CW.cond_true rfl ?_
  refine CW.ret ?_
  refine NW.then_ret ?_
  refine NW.ret0 rfl  ⟨_, ⟨rfl, rfl⟩, ?_⟩
  exact Sub.nil _
theorem devN_Down : Spec Tryd.prog W B 23 [.pointer none] [] (fun v post => v = .bool true ∧ post = []) := by
  refine Spec.enter ([]) Tryd.func23 rfl Tryd.ntmps23 rfl (by first | rfl | simp) (fun w0 => ?_)
  refine CW.seq ?_
  refine CW.region ?_
  refine LW.assign rfl rfl ?_
  refine LW.nil ?_
  refine NW.then_ ?_
  refine CW.seq ?_
  refine CW.region ?_
  refine LW.move rfl rfl ?_
  refine LW.ptrNil _ rfl Tryd.underlying24 rfl rfl ?_
  refine LW.move rfl rfl ?_
  refine LW.off 5 rfl rfl rfl rfl ?_
  refine LW.off 5 rfl rfl rfl rfl ?_
  refine LW.off 5 rfl rfl rfl rfl ?_
  refine LW.off 5 rfl rfl rfl rfl ?_
  refine LW.pickT rfl rfl rfl ?_
  refine LW.assign rfl rfl ?_
  refine LW.nil ?_
  refine NW.then_ ?_
  refine CW.ret ?_
  refine NW.ret1 rfl rfl ⟨_, ⟨rfl, rfl⟩, ?_⟩
  exact Sub.nil _
theorem devN_Write (i : Int) (v : Value) : Spec Tryd.prog W B 19 [.pointer none, .int .i64 i, v] [] (fun v post => v = .int .i64 9 ∧ post = []) := by
  refine Spec.enter ([]) Tryd.func19 rfl Tryd.ntmps19 rfl (by first | rfl | simp) (fun w0 => ?_)
  refine CW.seq ?_
  refine CW.region ?_
  refine LW.assign rfl rfl ?_
  refine LW.nil ?_
  refine NW.then_ ?_
  refine CW.seq ?_
  refine CW.block ?_
  refine CW.seq ?_
  refine CW.region ?_
  refine LW.move rfl rfl ?_
  refine LW.call (devN_Down W B) Tryd.func23 rfl FactsLawNone.fname23 ⟨rfl, trivial⟩ (Take.none _) rfl ?_
  rintro _ _ ⟨rfl, rfl⟩
  refine LW.assign rfl rfl ?_
  refine LW.nil ?_
  refine NW.then_ ?_
  refine CW.cond_true rfl ?_
  refine CW.seq ?_
  refine CW.region ?_
  refine LW.assign rfl rfl ?_
  refine LW.nil ?_
  refine NW.then_ ?_
  refine CW.ret ?_
  refine NW.block_ret ?_
  refine NW.then_ret ?_
  refine NW.ret1 rfl rfl ⟨_, ⟨rfl, rfl⟩, ?_⟩
  exact Sub.nil _
theorem devN_Flush : Spec Tryd.prog W B 36 [.pointer none] [] (fun v post => v = .int .i64 9 ∧ post = []) := by
  refine Spec.enter ([]) Tryd.func36 rfl Tryd.ntmps36 rfl (by first | rfl | simp) (fun w0 => ?_)
  refine CW.seq ?_
  refine CW.region ?_
  refine LW.assign rfl rfl ?_
  refine LW.nil ?_
  refine NW.then_ ?_
  refine CW.seq ?_
  refine CW.seq ?_
  refine CW.region ?_
  refine LW.move rfl rfl ?_
  refine LW.call (devN_Down W B) Tryd.func23 rfl FactsLawNone.fname23 ⟨rfl, trivial⟩ (Take.none _) rfl ?_
  rintro _ _ ⟨rfl, rfl⟩
  refine LW.nil ?_
  refine NW.then_ ?_
  refine CW.cond_true rfl ?_
  refine CW.seq ?_
  refine CW.region ?_
  refine LW.assign rfl rfl ?_
  refine LW.nil ?_
  refine NW.then_ ?_
  refine CW.ret ?_
  refine NW.then_ret ?_
  refine NW.ret1 rfl rfl ⟨_, ⟨rfl, rfl⟩, ?_⟩
  exact Sub.nil _
theorem devN_Sectors : Spec Tryd.prog W B 44 [.pointer none] [] (fun v post => v = .int .i64 0 ∧ post = []) := by
  refine Spec.enter ([]) Tryd.func44 rfl Tryd.ntmps44 rfl (by first | rfl | simp) (fun w0 => ?_)
  refine CW.seq ?_
  refine CW.region ?_
  refine LW.assign rfl rfl ?_
  refine LW.nil ?_
  refine NW.then_ ?_
  refine CW.seq ?_
  refine CW.seq ?_
  refine CW.region ?_
  refine LW.move rfl rfl ?_
  refine LW.ptrNil _ rfl Tryd.underlying24 rfl rfl ?_
  refine LW.nil ?_
  refine NW.then_ ?_
  refine CW.cond_true rfl ?_
  refine CW.seq ?_
  refine CW.region ?_
  refine LW.assign rfl rfl ?_
  refine LW.nil ?_
  refine NW.then_ ?_
  refine CW.ret ?_
  refine NW.then_ret ?_
  refine NW.ret1 rfl rfl ⟨_, ⟨rfl, rfl⟩, ?_⟩
  exact Sub.nil _
theorem devN_Loose : Spec Tryd.prog W B 22 [.pointer none] [] (fun v post => v = .slice none 0 0 ∧ post = []) := by
  refine Spec.enter ([]) Tryd.func22 rfl Tryd.ntmps22 rfl (by first | rfl | simp) (fun w0 => ?_)
  refine CW.seq ?_
  refine CW.region ?_
  refine LW.assign rfl rfl ?_
  refine LW.nil ?_
  refine NW.then_ ?_
  refine CW.seq ?_
  refine CW.region ?_
  refine LW.assign rfl rfl ?_
  refine LW.nil ?_
  refine NW.then_ ?_
  refine CW.seq ?_
  refine CW.seq ?_
  refine CW.region ?_
  refine LW.move rfl rfl ?_
  refine LW.call (devN_Sectors W B) Tryd.func44 rfl FactsLawNone.fname44 ⟨rfl, trivial⟩ (Take.none _) rfl ?_
  rintro _ _ ⟨rfl, rfl⟩
  refine LW.move rfl rfl ?_
  refine LW.nil ?_
  refine NW.then_ ?_
  refine CW.block ?_
  refine CW.loop (fun _ : Unit => [(7, .int .i64 0), (6, .int .i64 0), (3, .slice none 0 0)]) (fun _ => []) (fun _ => True) (fun _ => 0) () ?st3_j ?st3_e ?st3_h ?st3_r
  case st3_j => exact trivial
  case st3_e => repeat (first | exact Env.Le.nil _ | refine Env.Le.cons rfl ?_)
  case st3_h => repeat (first | exact Sub.heap_nil _ | exact Sub.refl _ | refine Sub.heap_cons (by repeat (first | exact Take.head _ _ | apply Take.tail)) ?_)
  case st3_r =>
    rintro ⟨⟩ _
    refine CW.seq ?_
    refine CW.region ?_
    refine LW.lss false rfl rfl (rfl) rfl ?_
    refine LW.nil ?_
    refine NW.then_ ?_
    refine CW.seq ?_
    refine CW.cond_false rfl ?_
    refine CW.exit ?_
    refine NW.then_exit ?_
    refine NW.then_exit ?_
    refine NW.block_exit ?_
    refine NW.then_ ?_
    refine CW.seq ?_
    refine CW.region ?_
    refine LW.move rfl rfl ?_
    refine LW.assign rfl rfl ?_
    refine LW.nil ?_
    refine NW.then_ ?_
    refine CW.ret ?_
    refine NW.ret1 rfl rfl ⟨_, ⟨rfl, rfl⟩, ?_⟩
    exact Sub.nil _
theorem devN_Crash (v : Value) : Spec Tryd.prog W B 21 [.pointer none, v] [] (fun v post => v = .pointer none ∧ post = []) := by
  refine Spec.enter ([]) Tryd.func21 rfl Tryd.ntmps21 rfl (by first | rfl | simp) (fun w0 => ?_)
  refine CW.seq ?_
  refine CW.region ?_
  refine LW.assign rfl rfl ?_
  refine LW.nil ?_
  refine NW.then_ ?_
  refine CW.seq ?_
  refine CW.seq ?_
  refine CW.region ?_
  refine LW.move rfl rfl ?_
  refine LW.ptrNil _ rfl Tryd.underlying24 rfl rfl ?_
  refine LW.nil ?_
  refine NW.then_ ?_
  refine CW.cond_true rfl ?_
  refine CW.seq ?_
  refine CW.region ?_
  refine LW.assign rfl rfl ?_
  refine LW.nil ?_
  refine NW.then_ ?_
  refine CW.ret ?_
  refine NW.then_ret ?_
  refine NW.ret1 rfl rfl ⟨_, ⟨rfl, rfl⟩, ?_⟩
  exact Sub.nil _
theorem binN_WInt (v : Value) : Spec Tryd.prog W B 24 [.pointer none, v] [] (fun v post => v = .tuple #[] ∧ post = []) := by
  refine Spec.enter ([]) Tryd.func24 rfl Tryd.ntmps24 rfl (by first | rfl | simp) (fun w0 => ?_)
  refine CW.seq ?_
  refine CW.seq ?_
  refine CW.region ?_
  refine LW.move rfl rfl ?_
  refine LW.ptrNil _ rfl Tryd.underlying78 rfl rfl ?_
  refine LW.nil ?_
  refine NW.then_ ?_
  refine CW.cond_true rfl ?_
  refine CW.ret ?_
  refine NW.then_ret ?_
  refine NW.ret0 rfl  ⟨_, ⟨rfl, rfl⟩, ?_⟩
  exact Sub.nil _
theorem binN_WText (v : Value) : Spec Tryd.prog W B 26 [.pointer none, v] [] (fun v post => v = .tuple #[] ∧ post = []) := by
  refine Spec.enter ([]) Tryd.func26 rfl Tryd.ntmps26 rfl (by first | rfl | simp) (fun w0 => ?_)
  refine CW.seq ?_
  refine CW.region ?_
  refine LW.move rfl rfl ?_
  refine LW.ptrNotNil _ rfl Tryd.underlying78 rfl rfl ?_
  refine LW.nil ?_
  refine NW.then_ ?_
  refine CW.cond_false rfl ?_
  refine CW.skip ?_
  refine NW.end0 rfl  ⟨_, ⟨rfl, rfl⟩, ?_⟩
  exact Sub.nil _
theorem binN_WBytes : Spec Tryd.prog W B 29 [.pointer none] [] (fun v post => v = .slice none 0 0 ∧ post = []) := by
  refine Spec.enter ([]) Tryd.func29 rfl Tryd.ntmps29 rfl (by first | rfl | simp) (fun w0 => ?_)
  refine CW.seq ?_
  refine CW.region ?_
  refine LW.assign rfl rfl ?_
  refine LW.nil ?_
  refine NW.then_ ?_
  refine CW.seq ?_
  refine CW.seq ?_
  refine CW.region ?_
  refine LW.move rfl rfl ?_
  refine LW.ptrNil _ rfl Tryd.underlying78 rfl rfl ?_
  refine LW.nil ?_
  refine NW.then_ ?_
  refine CW.cond_true rfl ?_
  refine CW.seq ?_
  refine CW.region ?_
  refine LW.assign rfl rfl ?_
  refine LW.nil ?_
  refine NW.then_ ?_
  refine CW.ret ?_
  refine NW.then_ret ?_
  refine NW.ret1 rfl rfl ⟨_, ⟨rfl, rfl⟩, ?_⟩
  exact Sub.nil _
theorem binN_Err : Spec Tryd.prog W B 32 [.pointer none] [] (fun v post => v = .int .i64 1 ∧ post = []) := by
  refine Spec.enter ([]) Tryd.func32 rfl Tryd.ntmps32 rfl (by first | rfl | simp) (fun w0 => ?_)
  refine CW.seq ?_
  refine CW.region ?_
  refine LW.assign rfl rfl ?_
  refine LW.nil ?_
  refine NW.then_ ?_
  refine CW.seq ?_
  refine CW.seq ?_
  refine CW.region ?_
  refine LW.move rfl rfl ?_
  refine LW.ptrNil _ rfl Tryd.underlying46 rfl rfl ?_
  refine LW.move rfl rfl ?_
  refine LW.off 5 rfl rfl rfl rfl ?_
  refine LW.off 5 rfl rfl rfl rfl ?_
  refine LW.off 5 rfl rfl rfl rfl ?_
  refine LW.off 5 rfl rfl rfl rfl ?_
  refine LW.pickT rfl rfl rfl ?_
  refine LW.nil ?_
  refine NW.then_ ?_
  refine CW.cond_true rfl ?_
  refine CW.seq ?_
  refine CW.region ?_
  refine LW.assign rfl rfl ?_
  refine LW.nil ?_
  refine NW.then_ ?_
  refine CW.ret ?_
  refine NW.then_ret ?_
  refine NW.ret1 rfl rfl ⟨_, ⟨rfl, rfl⟩, ?_⟩
  exact Sub.nil _
theorem binN_RInt : Spec Tryd.prog W B 31 [.pointer none] [] (fun v post => v = .int .i64 0 ∧ post = []) := by
  refine Spec.enter ([]) Tryd.func31 rfl Tryd.ntmps31 rfl (by first | rfl | simp) (fun w0 => ?_)
  refine CW.seq ?_
  refine CW.region ?_
  refine LW.assign rfl rfl ?_
  refine LW.nil ?_
  refine NW.then_ ?_
  refine CW.seq ?_
  refine CW.seq ?_
  refine CW.region ?_
  refine LW.move rfl rfl ?_
  refine LW.call (binN_Err W B) Tryd.func32 rfl FactsLawNone.fname32 ⟨rfl, trivial⟩ (Take.none _) rfl ?_
  rintro _ _ ⟨rfl, rfl⟩
  refine LW.neq true rfl rfl (rfl) rfl ?_
  refine LW.nil ?_
  refine NW.then_ ?_
  refine CW.cond_true rfl ?_
  refine CW.seq ?_
  refine CW.region ?_
  refine LW.assign rfl rfl ?_
  refine LW.nil ?_
  refine NW.then_ ?_
  refine CW.ret ?_
  refine NW.then_ret ?_
  refine NW.ret1 rfl rfl ⟨_, ⟨rfl, rfl⟩, ?_⟩
  exact Sub.nil _
theorem binN_RText (i : Int) : Spec Tryd.prog W B 33 [.pointer none, .int .i64 i] [] (fun v post => v = strV [] ∧ post = []) := by
  refine Spec.enter ([]) Tryd.func33 rfl Tryd.ntmps33 rfl (by first | rfl | simp) (fun w0 => ?_)
  refine CW.seq ?_
  refine CW.region ?_
  refine LW.assign rfl rfl ?_
  refine LW.nil ?_
  refine NW.then_ ?_
  refine CW.seq ?_
  refine CW.region ?_
  refine LW.move rfl rfl ?_
  refine LW.call (binN_RInt W B) Tryd.func31 rfl FactsLawNone.fname31 ⟨rfl, trivial⟩ (Take.none _) rfl ?_
  rintro _ _ ⟨rfl, rfl⟩
  refine LW.assign rfl rfl ?_
  refine LW.nil ?_
  refine NW.then_ ?_
  refine CW.seq ?_
  refine CW.seq ?_
  refine CW.region ?_
  refine LW.move rfl rfl ?_
  refine LW.call (binN_Err W B) Tryd.func32 rfl FactsLawNone.fname32 ⟨rfl, trivial⟩ (Take.none _) rfl ?_
  rintro _ _ ⟨rfl, rfl⟩
  refine LW.neq true rfl rfl (rfl) rfl ?_
  refine LW.nil ?_
  refine NW.then_ ?_
  refine CW.cond_true rfl ?_
  refine CW.seq ?_
  refine CW.region ?_
  refine LW.assign rfl rfl ?_
  refine LW.nil ?_
  refine NW.then_ ?_
  refine CW.ret ?_
  refine NW.then_ret ?_
  refine NW.ret1 rfl rfl ⟨_, ⟨rfl, rfl⟩, ?_⟩
  exact Sub.nil _
theorem binN_End : Spec Tryd.prog W B 34 [.pointer none] [] (fun v post => v = .int .i64 1 ∧ post = []) := by
  refine Spec.enter ([]) Tryd.func34 rfl Tryd.ntmps34 rfl (by first | rfl | simp) (fun w0 => ?_)
  refine CW.seq ?_
  refine CW.region ?_
  refine LW.assign rfl rfl ?_
  refine LW.nil ?_
  refine NW.then_ ?_
  refine CW.seq ?_
  refine CW.seq ?_
  refine CW.region ?_
  refine LW.move rfl rfl ?_
  refine LW.call (binN_Err W B) Tryd.func32 rfl FactsLawNone.fname32 ⟨rfl, trivial⟩ (Take.none _) rfl ?_
  rintro _ _ ⟨rfl, rfl⟩
  refine LW.neq true rfl rfl (rfl) rfl ?_
  refine LW.move rfl rfl ?_
  refine LW.off 6 rfl rfl rfl rfl ?_
  refine LW.off 6 rfl rfl rfl rfl ?_
  refine LW.off 6 rfl rfl rfl rfl ?_
  refine LW.off 6 rfl rfl rfl rfl ?_
  refine LW.off 6 rfl rfl rfl rfl ?_
  refine LW.off 6 rfl rfl rfl rfl ?_
  refine LW.pickT rfl rfl rfl ?_
  refine LW.nil ?_
  refine NW.then_ ?_
  refine CW.cond_true rfl ?_
  refine CW.seq ?_
  refine CW.region ?_
  refine LW.assign rfl rfl ?_
  refine LW.nil ?_
  refine NW.then_ ?_
  refine CW.ret ?_
  refine NW.then_ret ?_
  refine NW.ret1 rfl rfl ⟨_, ⟨rfl, rfl⟩, ?_⟩
  exact Sub.nil _
theorem failN_At (s : List UInt8) : Spec Tryd.prog W B 46 [strV s, .nilIface] [] (fun v post => v = .nilIface ∧ post = []) := by
  refine Spec.enter ([]) Tryd.func46 rfl Tryd.ntmps46 rfl (by first | rfl | simp) (fun w0 => ?_)
  refine CW.seq ?_
  refine CW.region ?_
  refine LW.assign rfl rfl ?_
  refine LW.nil ?_
  refine NW.then_ ?_
  refine CW.seq ?_
  refine CW.seq ?_
  refine CW.region ?_
  refine LW.move rfl rfl ?_
  refine LW.ifaceNil _ rfl Tryd.underlying80 (.inl ⟨rfl, rfl⟩) rfl ?_
  refine LW.move rfl rfl ?_
  refine LW.off 7 rfl rfl rfl rfl ?_
  refine LW.off 7 rfl rfl rfl rfl ?_
  refine LW.off 7 rfl rfl rfl rfl ?_
  refine LW.pickT rfl rfl rfl ?_
  refine LW.nil ?_
  refine NW.then_ ?_
  refine CW.cond_true rfl ?_
  refine CW.seq ?_
  refine CW.region ?_
  refine LW.assign rfl rfl ?_
  refine LW.nil ?_
  refine NW.then_ ?_
  refine CW.ret ?_
  refine NW.then_ret ?_
  refine NW.ret1 rfl rfl ⟨_, ⟨rfl, rfl⟩, ?_⟩
  exact Sub.nil _
theorem failN_At0 (s : List UInt8) : Spec Tryd.prog W B 46 [strV s, eno 0] [] (fun v post => v = .nilIface ∧ post = []) := by
  refine Spec.enter ([]) Tryd.func46 rfl Tryd.ntmps46 rfl (by first | rfl | simp) (fun w0 => ?_)
  refine CW.seq ?_
  refine CW.region ?_
  refine LW.assign rfl rfl ?_
  refine LW.nil ?_
  refine NW.then_ ?_
  refine CW.seq ?_
  refine CW.seq ?_
  refine CW.region ?_
  refine LW.move rfl rfl ?_
  refine LW.ifaceNil _ rfl Tryd.underlying80 (.inr ⟨⟨_, _, rfl⟩, rfl⟩) rfl ?_
  refine LW.move rfl rfl ?_
  refine LW.on 7 rfl rfl ?_
  refine LW.move rfl rfl ?_
  refine LW.on 7 rfl rfl ?_
  refine LW.mkIface rfl FactsLawNone.concrete28 rfl ?_
  refine LW.on 7 rfl rfl ?_
  refine LW.ifaceEqInt true rfl rfl Tryd.underlying80 Tryd.underlying28 compErrno rfl rfl ?_
  refine LW.pickF rfl rfl rfl ?_
  refine LW.nil ?_
  refine NW.then_ ?_
  refine CW.cond_true rfl ?_
  refine CW.seq ?_
  refine CW.region ?_
  refine LW.assign rfl rfl ?_
  refine LW.nil ?_
  refine NW.then_ ?_
  refine CW.ret ?_
  refine NW.then_ret ?_
  refine NW.ret1 rfl rfl ⟨_, ⟨rfl, rfl⟩, ?_⟩
  exact Sub.nil _
theorem failN_Code : Spec Tryd.prog W B 47 [.nilIface] [] (fun v post => v = .int .i64 0 ∧ post = []) := by
  refine Spec.enter ([]) Tryd.func47 rfl Tryd.ntmps47 rfl (by first | rfl | simp) (fun w0 => ?_)
  refine CW.seq ?_
  refine CW.region ?_
  refine LW.assign rfl rfl ?_
  refine LW.nil ?_
  refine NW.then_ ?_
  refine CW.seq ?_
  refine CW.seq ?_
  refine CW.region ?_
  refine LW.move rfl rfl ?_
  refine LW.ifaceNil _ rfl Tryd.underlying80 (.inl ⟨rfl, rfl⟩) rfl ?_
  refine LW.nil ?_
  refine NW.then_ ?_
  refine CW.cond_true rfl ?_
  refine CW.seq ?_
  refine CW.region ?_
  refine LW.assign rfl rfl ?_
  refine LW.nil ?_
  refine NW.then_ ?_
  refine CW.ret ?_
  refine NW.then_ret ?_
  refine NW.ret1 rfl rfl ⟨_, ⟨rfl, rfl⟩, ?_⟩
  exact Sub.nil _
theorem nilAt (xT : Nat) (w : World) : (Instr.typeAssert .nilIface xT 97 true).run Tryd.prog w = .ok (.tuple #[.pointer none, .bool false]) w := by kernel_rfl
theorem failN_Where : Spec Tryd.prog W B 48 [.nilIface] [] (fun v post => v = .slice none 0 0 ∧ post = []) := by
  refine Spec.enter ([]) Tryd.func48 rfl Tryd.ntmps48 rfl (by first | rfl | simp) (fun w0 => ?_)
  refine CW.seq ?_
  refine CW.region ?_
  refine LW.assign rfl rfl ?_
  refine LW.nil ?_
  refine NW.then_ ?_
  refine CW.seq ?_
  refine CW.region ?_
  refine LW.assign rfl rfl ?_
  refine LW.nil ?_
  refine NW.then_ ?_
  refine CW.block ?_
  refine CW.loop (fun _ : Unit => [(0, .nilIface), (3, .slice none 0 0)]) (fun _ => []) (fun _ => True) (fun _ => 0) () ?st2_j ?st2_e ?st2_h ?st2_r
  case st2_j => exact trivial
  case st2_e => repeat (first | exact Env.Le.nil _ | refine Env.Le.cons rfl ?_)
  case st2_h => repeat (first | exact Sub.heap_nil _ | exact Sub.refl _ | refine Sub.heap_cons (by repeat (first | exact Take.head _ _ | apply Take.tail)) ?_)
  case st2_r =>
    rintro ⟨⟩ _
    refine CW.block ?_
    refine CW.seq ?_
    refine CW.region ?_
    refine LW.move rfl rfl ?_
    refine LW.tassert rfl (fun w => nilAt _ w) rfl ?_
    refine LW.move rfl rfl ?_
    refine LW.extract rfl rfl rfl ?_
    refine LW.extract rfl rfl rfl ?_
    refine LW.assign rfl rfl ?_
    refine LW.assign rfl rfl ?_
    refine LW.nil ?_
    refine NW.then_ ?_
    refine CW.seq ?_
    refine CW.seq ?_
    refine CW.region ?_
    refine LW.move rfl rfl ?_
    refine LW.not _ rfl rfl rfl ?_
    refine LW.nil ?_
    refine NW.then_ ?_
    refine CW.cond_true rfl ?_
    refine CW.seq ?_
    refine CW.region ?_
    refine LW.move rfl rfl ?_
    refine LW.assign rfl rfl ?_
    refine LW.nil ?_
    refine NW.then_ ?_
    refine CW.ret ?_
    refine NW.then_ret ?_
    refine NW.block_ret ?_
    refine NW.then_ret ?_
    refine NW.block_ret ?_
    refine NW.ret1 rfl rfl ⟨_, ⟨rfl, rfl⟩, ?_⟩
    exact Sub.nil _
theorem dev_NewNo (n : Int) (h : n < 64 ∨ 4096 < n) : Spec Tryd.prog W B 17 [.int .i64 n] [] (fun v post => v = .pointer none ∧ post = []) := by
  by_cases h1 : n < 64
  ·
    refine Spec.enter ([]) Tryd.func17 rfl Tryd.ntmps17 rfl (by first | rfl | simp) (fun w0 => ?_)
    refine CW.seq ?_
    refine CW.region ?_
    refine LW.assign rfl rfl ?_
    refine LW.nil ?_
    refine NW.then_ ?_
    refine CW.seq ?_
    refine CW.seq ?_
    refine CW.region ?_
    refine LW.move rfl rfl ?_
    refine LW.lss true rfl rfl (decide_eq_true (by omega)) rfl ?_
    refine LW.move rfl rfl ?_
    refine LW.off 5 rfl rfl rfl rfl ?_
    refine LW.off 5 rfl rfl rfl rfl ?_
    refine LW.pickT rfl rfl rfl ?_
    refine LW.nil ?_
    refine NW.then_ ?_
    refine CW.cond_true rfl ?_
    refine CW.seq ?_
    refine CW.region ?_
    refine LW.assign rfl rfl ?_
    refine LW.nil ?_
    refine NW.then_ ?_
    refine CW.ret ?_
    refine NW.then_ret ?_
    refine NW.ret1 rfl rfl ⟨_, ⟨rfl, rfl⟩, ?_⟩
    exact Sub.nil _
  ·
    refine Spec.enter ([]) Tryd.func17 rfl Tryd.ntmps17 rfl (by first | rfl | simp) (fun w0 => ?_)
    refine CW.seq ?_
    refine CW.region ?_
    refine LW.assign rfl rfl ?_
    refine LW.nil ?_
    refine NW.then_ ?_
    refine CW.seq ?_
    refine CW.seq ?_
    refine CW.region ?_
    refine LW.move rfl rfl ?_
    refine LW.lss false rfl rfl (decide_eq_false (by omega)) rfl ?_
    refine LW.move rfl rfl ?_
    refine LW.on 5 rfl rfl ?_
    refine LW.move rfl rfl ?_
    refine LW.on 5 rfl rfl ?_
    refine LW.gtr true rfl rfl (decide_eq_true (by omega)) rfl ?_
    refine LW.pickF rfl rfl rfl ?_
    refine LW.nil ?_
    refine NW.then_ ?_
    refine CW.cond_true rfl ?_
    refine CW.seq ?_
    refine CW.region ?_
    refine LW.assign rfl rfl ?_
    refine LW.nil ?_
    refine NW.then_ ?_
    refine CW.ret ?_
    refine NW.then_ret ?_
    refine NW.ret1 rfl rfl ⟨_, ⟨rfl, rfl⟩, ?_⟩
    exact Sub.nil _

theorem law_PartsNone (h0 : 0 < B) (hg : W.cell? ⟨0, 0, none⟩ = some (rty 80)) : Spec Tryd.prog W B 13 [] [] (fun v post => v = .bool true ∧ post = []) := by
  refine Spec.enter ([]) Tryd.func13 rfl Tryd.ntmps13 rfl (by first | rfl | simp) (fun w0 => ?_)
  refine CW.seq ?_
  refine CW.region ?_
  refine LW.assign rfl rfl ?_
  refine LW.nil ?_
  refine NW.then_ ?_
  refine CW.seq ?_
  refine CW.region ?_
  refine LW.assign rfl rfl ?_
  refine LW.nil ?_
  refine NW.then_ ?_
  refine CW.seq ?_
  refine CW.region ?_
  refine LW.assign rfl rfl ?_
  refine LW.nil ?_
  refine NW.then_ ?_
  refine CW.seq ?_
  refine CW.region ?_
  refine LW.assign rfl rfl ?_
  refine LW.nil ?_
  refine NW.then_ ?_
  refine CW.seq ?_
  refine CW.region ?_
  refine LW.move rfl rfl ?_
  refine LW.call (devN_Read W B 0) Tryd.func20 rfl FactsLawNone.fname20 ⟨rfl, rfl, trivial⟩ (Take.none _) rfl ?_
  rintro _ _ ⟨rfl, rfl⟩
  refine LW.move rfl rfl ?_
  refine LW.extract rfl rfl rfl ?_
  refine LW.extract rfl rfl rfl ?_
  refine LW.assign rfl rfl ?_
  refine LW.assign rfl rfl ?_
  refine LW.nil ?_
  refine NW.then_ ?_
  refine CW.seq ?_
  refine CW.region ?_
  refine LW.move rfl rfl ?_
  refine LW.buildSlice (vs := [_]) ⟨rfl, trivial⟩ rfl (by intro v hv; simp at hv; subst hv; rfl) Tryd.underlying36 FactsLawNone.info2 rfl (by decide) (by decide) rfl ?_
  intro bs12
  refine LW.call (binN_WInt W B _) Tryd.func24 rfl FactsLawNone.fname24 ⟨rfl, rfl, trivial⟩ (Take.none _) rfl ?_
  rintro _ _ ⟨rfl, rfl⟩
  refine LW.nil ?_
  refine NW.then_ ?_
  refine CW.seq ?_
  refine CW.region ?_
  refine LW.move rfl rfl ?_
  refine LW.call (binN_WText W B _) Tryd.func26 rfl FactsLawNone.fname26 ⟨rfl, rfl, trivial⟩ (Take.none _) rfl ?_
  rintro _ _ ⟨rfl, rfl⟩
  refine LW.nil ?_
  refine NW.then_ ?_
  refine CW.seq ?_
  refine CW.region ?_
  refine LW.move rfl rfl ?_
  refine LW.call (devN_Fuse W B 1) Tryd.func40 rfl FactsLawNone.fname40 ⟨rfl, rfl, trivial⟩ (Take.none _) rfl ?_
  rintro _ _ ⟨rfl, rfl⟩
  refine LW.nil ?_
  refine NW.then_ ?_
  refine CW.seq ?_
  refine CW.region ?_
  refine LW.call (law_begun W B h0 hg) Tryd.func16 rfl FactsLawNone.fname16 trivial (Take.none _) rfl ?_
  rintro _ _ ⟨rfl, rfl⟩
  refine LW.move rfl rfl ?_
  refine LW.on 19 rfl rfl ?_
  refine LW.move rfl rfl ?_
  refine LW.on 19 rfl rfl ?_
  refine LW.eql true rfl rfl (rfl) rfl ?_
  refine LW.pickT rfl rfl rfl ?_
  refine LW.move rfl rfl ?_
  refine LW.on 23 rfl rfl ?_
  refine LW.move rfl rfl ?_
  refine LW.on 23 rfl rfl ?_
  refine LW.call (devN_Write W B 0 _) Tryd.func19 rfl FactsLawNone.fname19 ⟨rfl, rfl, rfl, trivial⟩ (Take.none _) rfl ?_
  rintro _ _ ⟨rfl, rfl⟩
  refine LW.on 23 rfl rfl ?_
  refine LW.eql true rfl rfl (rfl) rfl ?_
  refine LW.pickT rfl rfl rfl ?_
  refine LW.move rfl rfl ?_
  refine LW.on 28 rfl rfl ?_
  refine LW.move rfl rfl ?_
  refine LW.on 28 rfl rfl ?_
  refine LW.call (devN_Flush W B) Tryd.func36 rfl FactsLawNone.fname36 ⟨rfl, trivial⟩ (Take.none _) rfl ?_
  rintro _ _ ⟨rfl, rfl⟩
  refine LW.on 28 rfl rfl ?_
  refine LW.eql true rfl rfl (rfl) rfl ?_
  refine LW.pickT rfl rfl rfl ?_
  refine LW.move rfl rfl ?_
  refine LW.on 33 rfl rfl ?_
  refine LW.move rfl rfl ?_
  refine LW.on 33 rfl rfl ?_
  refine LW.call (devN_Down W B) Tryd.func23 rfl FactsLawNone.fname23 ⟨rfl, trivial⟩ (Take.none _) rfl ?_
  rintro _ _ ⟨rfl, rfl⟩
  refine LW.pickT rfl rfl rfl ?_
  refine LW.move rfl rfl ?_
  refine LW.on 37 rfl rfl ?_
  refine LW.move rfl rfl ?_
  refine LW.on 37 rfl rfl ?_
  refine LW.call (devN_Loose W B) Tryd.func22 rfl FactsLawNone.fname22 ⟨rfl, trivial⟩ (Take.none _) rfl ?_
  rintro _ _ ⟨rfl, rfl⟩
  refine LW.on 37 rfl rfl ?_
  refine LW.lenSlice rfl Tryd.underlying33 rfl ?_
  refine LW.on 37 rfl rfl ?_
  refine LW.eql true rfl rfl (rfl) rfl ?_
  refine LW.pickT rfl rfl rfl ?_
  refine LW.move rfl rfl ?_
  refine LW.on 43 rfl rfl ?_
  refine LW.move rfl rfl ?_
  refine LW.on 43 rfl rfl ?_
  refine LW.call (devN_Sectors W B) Tryd.func44 rfl FactsLawNone.fname44 ⟨rfl, trivial⟩ (Take.none _) rfl ?_
  rintro _ _ ⟨rfl, rfl⟩
  refine LW.on 43 rfl rfl ?_
  refine LW.eql true rfl rfl (rfl) rfl ?_
  refine LW.pickT rfl rfl rfl ?_
  refine LW.move rfl rfl ?_
  refine LW.on 48 rfl rfl ?_
  refine LW.move rfl rfl ?_
  refine LW.on 48 rfl rfl ?_
  refine LW.call (devN_Crash W B _) Tryd.func21 rfl FactsLawNone.fname21 ⟨rfl, rfl, trivial⟩ (Take.none _) rfl ?_
  rintro _ _ ⟨rfl, rfl⟩
  refine LW.on 48 rfl rfl ?_
  refine LW.ptrNil _ rfl Tryd.underlying24 rfl rfl ?_
  refine LW.pickT rfl rfl rfl ?_
  refine LW.move rfl rfl ?_
  refine LW.on 53 rfl rfl ?_
  refine LW.move rfl rfl ?_
  refine LW.on 53 rfl rfl ?_
  refine LW.call (binN_WBytes W B) Tryd.func29 rfl FactsLawNone.fname29 ⟨rfl, trivial⟩ (Take.none _) rfl ?_
  rintro _ _ ⟨rfl, rfl⟩
  refine LW.on 53 rfl rfl ?_
  refine LW.lenSlice rfl Tryd.underlying26 rfl ?_
  refine LW.on 53 rfl rfl ?_
  refine LW.eql true rfl rfl (rfl) rfl ?_
  refine LW.pickT rfl rfl rfl ?_
  refine LW.move rfl rfl ?_
  refine LW.on 59 rfl rfl ?_
  refine LW.move rfl rfl ?_
  refine LW.on 59 rfl rfl ?_
  refine LW.call (binN_RInt W B) Tryd.func31 rfl FactsLawNone.fname31 ⟨rfl, trivial⟩ (Take.none _) rfl ?_
  rintro _ _ ⟨rfl, rfl⟩
  refine LW.on 59 rfl rfl ?_
  refine LW.eql true rfl rfl (rfl) rfl ?_
  refine LW.pickT rfl rfl rfl ?_
  refine LW.move rfl rfl ?_
  refine LW.on 64 rfl rfl ?_
  refine LW.move rfl rfl ?_
  refine LW.on 64 rfl rfl ?_
  refine LW.call (binN_RText W B 5) Tryd.func33 rfl FactsLawNone.fname33 ⟨rfl, rfl, trivial⟩ (Take.none _) rfl ?_
  rintro _ _ ⟨rfl, rfl⟩
  refine LW.on 64 rfl rfl ?_
  refine LW.strEql (true) rfl rfl Tryd.underlying9 (decide_eq_true rfl) rfl ?_
  refine LW.pickT rfl rfl rfl ?_
  refine LW.move rfl rfl ?_
  refine LW.on 69 rfl rfl ?_
  refine LW.move rfl rfl ?_
  refine LW.on 69 rfl rfl ?_
  refine LW.call (binN_Err W B) Tryd.func32 rfl FactsLawNone.fname32 ⟨rfl, trivial⟩ (Take.none _) rfl ?_
  rintro _ _ ⟨rfl, rfl⟩
  refine LW.on 69 rfl rfl ?_
  refine LW.eql true rfl rfl (rfl) rfl ?_
  refine LW.pickT rfl rfl rfl ?_
  refine LW.move rfl rfl ?_
  refine LW.on 74 rfl rfl ?_
  refine LW.move rfl rfl ?_
  refine LW.on 74 rfl rfl ?_
  refine LW.call (binN_End W B) Tryd.func34 rfl FactsLawNone.fname34 ⟨rfl, trivial⟩ (Take.none _) rfl ?_
  rintro _ _ ⟨rfl, rfl⟩
  refine LW.on 74 rfl rfl ?_
  refine LW.eql true rfl rfl (rfl) rfl ?_
  refine LW.pickT rfl rfl rfl ?_
  refine LW.move rfl rfl ?_
  refine LW.on 79 rfl rfl ?_
  refine LW.call (failN_At W B [97]) Tryd.func46 rfl FactsLawNone.fname46 ⟨rfl, rfl, trivial⟩ (Take.none _) rfl ?_
  rintro _ _ ⟨rfl, rfl⟩
  refine LW.on 79 rfl rfl ?_
  refine LW.ifaceNil _ rfl Tryd.underlying80 (.inl ⟨rfl, rfl⟩) rfl ?_
  refine LW.pickT rfl rfl rfl ?_
  refine LW.move rfl rfl ?_
  refine LW.on 83 rfl rfl ?_
  refine LW.mkIface rfl FactsLawNone.concrete28 rfl ?_
  refine LW.on 83 rfl rfl ?_
  refine LW.call (failN_At0 W B [97]) Tryd.func46 rfl FactsLawNone.fname46 ⟨rfl, rfl, trivial⟩ (Take.none _) rfl ?_
  rintro _ _ ⟨rfl, rfl⟩
  refine LW.on 83 rfl rfl ?_
  refine LW.ifaceNil _ rfl Tryd.underlying80 (.inl ⟨rfl, rfl⟩) rfl ?_
  refine LW.pickT rfl rfl rfl ?_
  refine LW.move rfl rfl ?_
  refine LW.on 88 rfl rfl ?_
  refine LW.call (failN_Code W B) Tryd.func47 rfl FactsLawNone.fname47 ⟨rfl, trivial⟩ (Take.none _) rfl ?_
  rintro _ _ ⟨rfl, rfl⟩
  refine LW.on 88 rfl rfl ?_
  refine LW.eql true rfl rfl (rfl) rfl ?_
  refine LW.pickT rfl rfl rfl ?_
  refine LW.move rfl rfl ?_
  refine LW.on 92 rfl rfl ?_
  refine LW.call (failN_Where W B) Tryd.func48 rfl FactsLawNone.fname48 ⟨rfl, trivial⟩ (Take.none _) rfl ?_
  rintro _ _ ⟨rfl, rfl⟩
  refine LW.on 92 rfl rfl ?_
  refine LW.lenSlice rfl Tryd.underlying37 rfl ?_
  refine LW.on 92 rfl rfl ?_
  refine LW.eql true rfl rfl (rfl) rfl ?_
  refine LW.pickT rfl rfl rfl ?_
  refine LW.move rfl rfl ?_
  refine LW.on 97 rfl rfl ?_
  refine LW.call (dev_NewNo W B 63 (.inl (by decide))) Tryd.func17 rfl FactsLawNone.fname17 ⟨rfl, trivial⟩ (Take.none _) rfl ?_
  rintro _ _ ⟨rfl, rfl⟩
  refine LW.on 97 rfl rfl ?_
  refine LW.ptrNil _ rfl Tryd.underlying24 rfl rfl ?_
  refine LW.pickT rfl rfl rfl ?_
  refine LW.move rfl rfl ?_
  refine LW.on 101 rfl rfl ?_
  refine LW.call (dev_NewNo W B 4097 (.inr (by decide))) Tryd.func17 rfl FactsLawNone.fname17 ⟨rfl, trivial⟩ (Take.none _) rfl ?_
  rintro _ _ ⟨rfl, rfl⟩
  refine LW.on 101 rfl rfl ?_
  refine LW.ptrNil _ rfl Tryd.underlying24 rfl rfl ?_
  refine LW.pickT rfl rfl rfl ?_
  refine LW.assign rfl rfl ?_
  refine LW.nil ?_
  refine NW.then_ ?_
  refine CW.ret ?_
  refine NW.ret1 rfl rfl ⟨_, ⟨rfl, rfl⟩, ?_⟩
  exact Sub.nil _
end
end Go.Proofs.YtmgpldgldgdenaaDoor
