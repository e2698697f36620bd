/-
  errors.Is; package fail: their contracts over chains.
-/
import Derived.Test.YtemdebmfdhamgaaFmtFail1
namespace Go.Proofs.YtemdebmfdhamgaaFmt
open Go.RowKit Go.Extern
namespace FactsFail2
theorem concrete24 : Tryf.prog.concrete 24 = true := by kernel_rfl
theorem concrete36 : Tryf.prog.concrete 36 = true := by kernel_rfl
theorem concrete56 : Tryf.prog.concrete 56 = true := by kernel_rfl
theorem fa58_0 (b o : Nat) (w : World) : (Instr.fieldAt 58 (.pointer (some ⟨b, o, none⟩)) 0).run Tryf.prog w = .ok (.pointer (some ⟨b, o, none⟩)) w := by kernel_rfl
theorem fa58_1 (b o : Nat) (w : World) : (Instr.fieldAt 58 (.pointer (some ⟨b, o, none⟩)) 1).run Tryf.prog w = .ok (.pointer (some ⟨b, o + 1, none⟩)) w := by kernel_rfl
theorem fname11 : (Tryf.f11.name == "runtime.NumGoroutine") = false := by kernel_rfl
theorem fname13 : (Tryf.f13.name == "runtime.NumGoroutine") = false := by kernel_rfl
theorem fname28 : (Tryf.f28.name == "runtime.NumGoroutine") = false := by kernel_rfl
theorem fname61 : (Tryf.f61.name == "runtime.NumGoroutine") = false := by kernel_rfl
theorem info9 : (Tryf.prog.info? 9).map (fun i => (i.zero, i.size, i.bytes)) = some (some (.string ⟨#[]⟩), 1, 16) := by kernel_rfl
theorem mixed : Tryf.prog.follows .mixedOrders = true := by kernel_rfl
theorem one24 : oneB Tryf.prog 24 = true := by kernel_rfl
theorem one26 : oneB Tryf.prog 26 = true := by kernel_rfl
theorem one9 : oneB Tryf.prog 9 = true := by kernel_rfl
theorem zero24 : (Tryf.prog.info? 24).bind (·.zero) = some (.int .i64 0) := by kernel_rfl
end FactsFail2
section
variable (W : World) (B : Nat)

theorem errors_is (l : List (Nat × List UInt8)) (c c2 : Int) :
    Spec Tryf.prog W B 28 [chainV l (eno c), eno c2, .bool true] (chainR l (eno c)) (fun r post => r = .bool (c == c2) ∧ post = chainR l (eno c)) := by
  refine Spec.enter ([chainR l (eno c)]) Tryf.func28 rfl Tryf.ntmps28 rfl (by first | rfl | simp) (fun w0 => ?_)
  refine CW.seq ?_
  refine CW.region ?_
  refine LW.assign rfl rfl ?_
  refine LW.nil ?_
  refine NW.then_ ?_
  refine CW.block ?_
  refine CW.loop (fun r : List (Nat × List UInt8) => [(0, chainV r (eno c)), (1, eno c2), (2, .bool true)]) (fun _ => [chainR l (eno c)]) (fun r => ∃ q, l = q ++ r) List.length l ?st1_j ?st1_e ?st1_h ?st1_r
  case st1_j => exact ⟨[], rfl⟩
  case st1_e => repeat (first | exact Env.Le.nil _ | refine Env.Le.cons rfl ?_)
  case st1_h => repeat (first | exact Sub.heap_nil _ | exact Sub.refl _ | refine Sub.heap_cons (Take.none _) ?_ | refine Sub.heap_cons (by repeat (first | exact Take.head _ _ | apply Take.tail)) ?_)
  case st1_r =>
    rintro r ⟨q, hq⟩
    refine CW.block ?_
    refine CW.seq ?_
    refine CW.seq ?_
    refine CW.region ?_
    refine LW.move rfl rfl ?_
    refine LW.move rfl rfl ?_
    rcases r with _ | ⟨⟨p, s⟩, r⟩
    · refine LW.on 15 rfl rfl ?_
      refine LW.move rfl rfl ?_
      refine LW.on 15 rfl rfl ?_
      refine LW.move rfl rfl ?_
      refine LW.on 15 rfl rfl ?_
      refine LW.ifaceEqInt (c == c2) rfl rfl Tryf.underlying26 Tryf.underlying24 compErrno rfl rfl ?_
      refine LW.pickT rfl rfl rfl ?_
      refine LW.nil ?_
      refine NW.then_ ?_
      refine CW.cond rfl (fun hc19 => ?_) (fun hc19 => ?_)
      · have hcc : (c == c2) = true := hc19
        refine CW.seq ?_
        refine CW.region ?_
        refine LW.assign rfl rfl ?_
        refine LW.nil ?_
        refine NW.then_ ?_
        refine CW.ret ?_
        refine NW.then_ret ?_
        refine NW.block_ret ?_
        refine NW.then_ret ?_
        refine NW.block_ret ?_
        refine NW.ret1 rfl rfl ⟨_, ⟨by rw [hcc], rfl⟩, ?_⟩
        exact Sub.one (by repeat (first | exact Take.head _ _ | apply Take.tail))
      · have hcc : (c == c2) = false := hc19
        refine CW.skip ?_
        refine NW.then_ ?_
        refine CW.seq ?_
        refine CW.seq ?_
        refine CW.region ?_
        refine LW.move rfl rfl ?_
        refine LW.tassert rfl (fun w => noIsE _ _ w) rfl ?_
        refine LW.move rfl rfl ?_
        refine LW.extract rfl rfl rfl ?_
        refine LW.extract rfl rfl rfl ?_
        refine LW.assign rfl rfl ?_
        refine LW.assign rfl rfl ?_
        refine LW.nil ?_
        refine NW.then_ ?_
        refine CW.seq ?_
        refine CW.region ?_
        refine LW.move rfl rfl ?_
        refine LW.move rfl rfl ?_
        refine LW.off 26 rfl rfl rfl rfl ?_
        refine LW.off 26 rfl rfl rfl rfl ?_
        refine LW.off 26 rfl rfl rfl rfl ?_
        refine LW.pickF rfl rfl rfl ?_
        refine LW.nil ?_
        refine NW.then_ ?_
        refine CW.cond_false rfl ?_
        refine CW.skip ?_
        refine NW.then_ ?_
        refine CW.seq ?_
        refine CW.region ?_
        refine LW.move rfl rfl ?_
        refine LW.nil ?_
        refine NW.then_ ?_
        refine CW.block ?_
        refine CW.seq ?_
        refine CW.region ?_
        refine LW.tassert rfl (fun w => noUnwE _ _ w) rfl ?_
        refine LW.extract rfl rfl rfl ?_
        refine LW.extract rfl rfl rfl ?_
        refine LW.nil ?_
        refine NW.then_ ?_
        refine CW.cond_false rfl ?_
        refine CW.seq ?_
        refine CW.region ?_
        refine LW.tassert rfl (fun w => noUnwsE _ _ w) rfl ?_
        refine LW.extract rfl rfl rfl ?_
        refine LW.extract rfl rfl rfl ?_
        refine LW.nil ?_
        refine NW.then_ ?_
        refine CW.cond_false rfl ?_
        refine CW.seq ?_
        refine CW.region ?_
        refine LW.assign rfl rfl ?_
        refine LW.nil ?_
        refine NW.then_ ?_
        refine CW.seq ?_
        refine CW.region ?_
        refine LW.assign rfl rfl ?_
        refine LW.nil ?_
        refine NW.then_ ?_
        refine CW.ret ?_
        refine NW.block_ret ?_
        refine NW.block_ret ?_
        refine NW.then_ret ?_
        refine NW.block_ret ?_
        refine NW.ret1 rfl rfl ⟨_, ⟨by rw [hcc], rfl⟩, ?_⟩
        exact Sub.one (by repeat (first | exact Take.head _ _ | apply Take.tail))
    · refine LW.on 15 rfl rfl ?_
      refine LW.move rfl rfl ?_
      refine LW.on 15 rfl rfl ?_
      refine LW.move rfl rfl ?_
      refine LW.on 15 rfl rfl ?_
      refine LW.ifaceEqNe rfl rfl Tryf.underlying26 (by decide) rfl ?_
      refine LW.pickT rfl rfl rfl ?_
      refine LW.nil ?_
      refine NW.then_ ?_
      refine CW.cond_false rfl ?_
      refine CW.skip ?_
      refine NW.then_ ?_
      refine CW.seq ?_
      refine CW.seq ?_
      refine CW.region ?_
      refine LW.move rfl rfl ?_
      refine LW.tassert rfl (fun w => noIsA _ _ w) rfl ?_
      refine LW.move rfl rfl ?_
      refine LW.extract rfl rfl rfl ?_
      refine LW.extract rfl rfl rfl ?_
      refine LW.assign rfl rfl ?_
      refine LW.assign rfl rfl ?_
      refine LW.nil ?_
      refine NW.then_ ?_
      refine CW.seq ?_
      refine CW.region ?_
      refine LW.move rfl rfl ?_
      refine LW.move rfl rfl ?_
      refine LW.off 26 rfl rfl rfl rfl ?_
      refine LW.off 26 rfl rfl rfl rfl ?_
      refine LW.off 26 rfl rfl rfl rfl ?_
      refine LW.pickF rfl rfl rfl ?_
      refine LW.nil ?_
      refine NW.then_ ?_
      refine CW.cond_false rfl ?_
      refine CW.skip ?_
      refine NW.then_ ?_
      refine CW.seq ?_
      refine CW.region ?_
      refine LW.move rfl rfl ?_
      refine LW.nil ?_
      refine NW.then_ ?_
      refine CW.block ?_
      refine CW.seq ?_
      refine CW.region ?_
      refine LW.tassert rfl (fun w => unwA _ _ w) rfl ?_
      refine LW.extract rfl rfl rfl ?_
      refine LW.extract rfl rfl rfl ?_
      refine LW.nil ?_
      refine NW.then_ ?_
      refine CW.cond_true rfl ?_
      refine CW.seq ?_
      refine CW.region ?_
      refine LW.assign rfl rfl ?_
      refine LW.nil ?_
      refine NW.then_ ?_
      refine CW.seq ?_
      refine CW.region ?_
      refine LW.move rfl rfl ?_
      refine LW.invCall (args := []) rfl (mUnwrap _) (at_Unwrap W B p s (chainV r (eno c)) (chainR l (eno c)) (by rw [hq]; exact chainR_mem q p s r (eno c))) Tryf.func61 rfl FactsFail2.fname61 trivial (by repeat (first | exact Take.head _ _ | apply Take.tail)) rfl ?_
      rintro _ _ ⟨rfl, rfl⟩
      refine LW.assign rfl rfl ?_
      refine LW.nil ?_
      refine NW.then_ ?_
      refine CW.seq ?_
      refine CW.region ?_
      refine LW.move rfl rfl ?_
      refine LW.ifaceNil false rfl Tryf.underlying26 (.inr ⟨chainV_iface r c, rfl⟩) rfl ?_
      refine LW.nil ?_
      refine NW.then_ ?_
      refine CW.cond_false rfl ?_
      refine CW.skip ?_
      refine NW.block ?_
      refine NW.block ?_
      refine NW.meet (r) ?j1 ?e1 ?h1
      case j1 => exact ⟨⟨q ++ [(p, s)], by rw [hq]; simp⟩, Nat.lt_succ_self _⟩
      case e1 => repeat (first | exact Env.Le.nil _ | refine Env.Le.cons rfl ?_)
      case h1 => repeat (first | exact Sub.heap_nil _ | exact Sub.refl _ | refine Sub.heap_cons (Take.none _) ?_ | refine Sub.heap_cons (by repeat (first | exact Take.head _ _ | apply Take.tail)) ?_)

theorem errors_Is (l : List (Nat × List UInt8)) (c c2 : Int) :
    Spec Tryf.prog W B 11 [chainV l (eno c), eno c2] (chainR l (eno c)) (fun r post => r = .bool (c == c2) ∧ post = chainR l (eno c)) := by
  refine Spec.enter ([chainR l (eno c)]) Tryf.func11 rfl Tryf.ntmps11 rfl (by first | rfl | simp) (fun w0 => ?_)
  refine CW.seq ?_
  refine CW.region ?_
  refine LW.assign rfl rfl ?_
  refine LW.nil ?_
  refine NW.then_ ?_
  refine CW.seq ?_
  refine CW.seq ?_
  refine CW.region ?_
  refine LW.move rfl rfl ?_
  refine LW.ifaceNil false rfl Tryf.underlying26 (.inr ⟨chainV_iface l c, rfl⟩) rfl ?_
  refine LW.move rfl rfl ?_
  refine LW.on 8 rfl rfl ?_
  refine LW.move rfl rfl ?_
  refine LW.on 8 rfl rfl ?_
  refine LW.ifaceNil _ rfl Tryf.underlying26 (.inr ⟨⟨_, _, rfl⟩, rfl⟩) rfl ?_
  refine LW.pickF rfl rfl rfl ?_
  refine LW.nil ?_
  refine NW.then_ ?_
  refine CW.cond_false rfl ?_
  refine CW.skip ?_
  refine NW.then_ ?_
  refine CW.seq ?_
  refine CW.region ?_
  refine LW.move rfl rfl ?_
  refine LW.ext (args := [eno c2]) (rty 24) xTypeOf ⟨rfl, trivial⟩ (fun w _ => typeOfE w c2) rfl ?_
  refine LW.invExt (args := []) (.bool true) rfl (mComp _) xComp trivial (fun w _ => compE w) rfl ?_
  refine LW.assign rfl rfl ?_
  refine LW.nil ?_
  refine NW.then_ ?_
  refine CW.seq ?_
  refine CW.region ?_
  refine LW.move rfl rfl ?_
  refine LW.move rfl rfl ?_
  refine LW.move rfl rfl ?_
  refine LW.call (errors_is W B l c c2) Tryf.func28 rfl FactsFail2.fname28 ⟨rfl, rfl, rfl, trivial⟩ ((by repeat (first | exact Take.head _ _ | apply Take.tail))) rfl ?_
  rintro _ _ ⟨rfl, rfl⟩
  refine LW.assign rfl rfl ?_
  refine LW.nil ?_
  refine NW.then_ ?_
  refine CW.ret ?_
  refine NW.ret1 rfl rfl ⟨_, ⟨rfl, rfl⟩, ?_⟩
  exact Sub.one (by repeat (first | exact Take.head _ _ | apply Take.tail))

theorem fail_At (s : List UInt8) (l : List (Nat × List UInt8)) (c : Int) (hc : l = [] → c ≠ 0) :
    Spec Tryf.prog W B 6 [strV s, chainV l (eno c)] (chainR l (eno c)) (fun r post => ∃ p, r = chainV ((p, s) :: l) (eno c) ∧ post = chainR ((p, s) :: l) (eno c)) := by
  rcases l with _ | ⟨⟨p, s0⟩, l⟩
  · have hc0 : c ≠ 0 := hc rfl
    refine Spec.enter ([chainR [] (eno c)]) Tryf.func6 rfl Tryf.ntmps6 rfl (by first | rfl | simp) (fun w0 => ?_)
    refine CW.seq ?_
    refine CW.region ?_
    refine LW.assign rfl rfl ?_
    refine LW.nil ?_
    refine NW.then_ ?_
    refine CW.seq ?_
    refine CW.seq ?_
    refine CW.region ?_
    refine LW.move rfl rfl ?_
    refine LW.ifaceNil _ rfl Tryf.underlying26 (.inr ⟨⟨_, _, rfl⟩, rfl⟩) rfl ?_
    refine LW.move rfl rfl ?_
    refine LW.on 7 rfl rfl ?_
    refine LW.move rfl rfl ?_
    refine LW.on 7 rfl rfl ?_
    refine LW.mkIface rfl FactsFail2.concrete24 rfl ?_
    refine LW.on 7 rfl rfl ?_
    refine LW.ifaceEqInt false rfl rfl Tryf.underlying26 Tryf.underlying24 compErrno (beq_eq_false_iff_ne.2 hc0) rfl ?_
    refine LW.pickF rfl rfl rfl ?_
    refine LW.nil ?_
    refine NW.then_ ?_
    refine CW.cond_false rfl ?_
    refine CW.skip ?_
    refine NW.then_ ?_
    refine CW.seq ?_
    refine CW.region ?_
    refine LW.move rfl rfl ?_
    refine LW.move rfl rfl ?_
    refine LW.build (vs := [_, _]) (#[strV s, eno c]) ⟨rfl, rfl, trivial⟩ (by kernel_rfl) rfl ?_
    refine LW.box rfl rfl ?_
    intro bb15
    refine LW.mkIface rfl FactsFail2.concrete56 rfl ?_
    refine LW.assign rfl rfl ?_
    refine LW.nil ?_
    refine NW.then_ ?_
    refine CW.ret ?_
    refine NW.ret1 rfl rfl ⟨_, ⟨bb15, rfl, rfl⟩, ?_⟩
    exact Sub.take (p := [_]) (by repeat (first | exact Take.head _ _ | apply Take.tail)) (Sub.one (by repeat (first | exact Take.head _ _ | apply Take.tail)))
  ·
    refine Spec.enter ([chainR ((p, s0) :: l) (eno c)]) Tryf.func6 rfl Tryf.ntmps6 rfl (by first | rfl | simp) (fun w0 => ?_)
    refine CW.seq ?_
    refine CW.region ?_
    refine LW.assign rfl rfl ?_
    refine LW.nil ?_
    refine NW.then_ ?_
    refine CW.seq ?_
    refine CW.seq ?_
    refine CW.region ?_
    refine LW.move rfl rfl ?_
    refine LW.ifaceNil _ rfl Tryf.underlying26 (.inr ⟨⟨_, _, rfl⟩, rfl⟩) rfl ?_
    refine LW.move rfl rfl ?_
    refine LW.on 7 rfl rfl ?_
    refine LW.move rfl rfl ?_
    refine LW.on 7 rfl rfl ?_
    refine LW.mkIface rfl FactsFail2.concrete24 rfl ?_
    refine LW.on 7 rfl rfl ?_
    refine LW.ifaceEqNe rfl rfl Tryf.underlying26 (by decide) rfl ?_
    refine LW.pickF rfl rfl rfl ?_
    refine LW.nil ?_
    refine NW.then_ ?_
    refine CW.cond_false rfl ?_
    refine CW.skip ?_
    refine NW.then_ ?_
    refine CW.seq ?_
    refine CW.region ?_
    refine LW.move rfl rfl ?_
    refine LW.move rfl rfl ?_
    refine LW.build (vs := [_, _]) (#[strV s, chainV ((p, s0) :: l) (eno c)]) ⟨rfl, rfl, trivial⟩ (by kernel_rfl) rfl ?_
    refine LW.box rfl rfl ?_
    intro bb15
    refine LW.mkIface rfl FactsFail2.concrete56 rfl ?_
    refine LW.assign rfl rfl ?_
    refine LW.nil ?_
    refine NW.then_ ?_
    refine CW.ret ?_
    refine NW.ret1 rfl rfl ⟨_, ⟨bb15, rfl, rfl⟩, ?_⟩
    exact Sub.take (p := [_]) (by repeat (first | exact Take.head _ _ | apply Take.tail)) (Sub.one (by repeat (first | exact Take.head _ _ | apply Take.tail)))

theorem fail_Code (l : List (Nat × List UInt8)) (c : Int) (h0 : 0 < B) (hg : W.cell? ⟨0, 0, none⟩ = some (rty 26)) :
    Spec Tryf.prog W B 9 [chainV l (eno c)] (chainR l (eno c)) (fun r post => r = .int .i64 c ∧ post = chainR l (eno c)) := by
  refine Spec.enter ([chainR l (eno c)]) Tryf.func9 rfl Tryf.ntmps9 rfl (by first | rfl | simp) (fun w0 => ?_)
  refine CW.seq ?_
  refine CW.region ?_
  refine LW.assign rfl rfl ?_
  refine LW.nil ?_
  refine NW.then_ ?_
  refine CW.seq ?_
  refine CW.seq ?_
  refine CW.region ?_
  refine LW.move rfl rfl ?_
  refine LW.ifaceNil false rfl Tryf.underlying26 (.inr ⟨chainV_iface l c, rfl⟩) rfl ?_
  refine LW.nil ?_
  refine NW.then_ ?_
  refine CW.cond_false rfl ?_
  refine CW.skip ?_
  refine NW.then_ ?_
  refine CW.seq ?_
  refine CW.region ?_
  refine LW.alloc FactsFail2.zero24 rfl ?_
  intro ba3
  refine LW.nil ?_
  refine NW.then_ ?_
  refine CW.seq ?_
  refine CW.seq ?_
  refine CW.region ?_
  refine LW.move rfl rfl ?_
  refine LW.mkIface rfl FactsFail2.concrete36 rfl ?_
  refine LW.call (errors_As W B l c ba3 (.int .i64 0) h0 hg) Tryf.func13 rfl FactsFail2.fname13 ⟨rfl, rfl, trivial⟩ (Take.both (by repeat (first | exact Take.head _ _ | apply Take.tail)) (by repeat (first | exact Take.head _ _ | apply Take.tail))) rfl ?_
  rintro _ _ ⟨rfl, rfl⟩; refine LW.split2 ?_
  refine LW.not (false) rfl (rfl) rfl ?_
  refine LW.nil ?_
  refine NW.then_ ?_
  refine CW.cond_false rfl ?_
  refine CW.skip ?_
  refine NW.then_ ?_
  refine CW.seq ?_
  refine CW.region ?_
  refine LW.load rfl (by repeat (first | exact Take.head _ _ | apply Take.tail)) rfl FactsFail2.one24 rfl ?_
  refine LW.assign rfl rfl ?_
  refine LW.nil ?_
  refine NW.then_ ?_
  refine CW.ret ?_
  refine NW.ret1 rfl rfl ⟨_, ⟨rfl, rfl⟩, ?_⟩
  exact Sub.one (by repeat (first | exact Take.head _ _ | apply Take.tail))

theorem fail_Is (l : List (Nat × List UInt8)) (c c2 : Int) :
    Spec Tryf.prog W B 10 [chainV l (eno c), .int .i64 c2] (chainR l (eno c)) (fun r post => r = .bool (if c2 = 0 then false else c == c2) ∧ post = chainR l (eno c)) := by
  by_cases h2 : c2 = 0
  · rw [if_pos h2]
    refine Spec.enter ([chainR l (eno c)]) Tryf.func10 rfl Tryf.ntmps10 rfl (by first | rfl | simp) (fun w0 => ?_)
    refine CW.seq ?_
    refine CW.region ?_
    refine LW.assign rfl rfl ?_
    refine LW.nil ?_
    refine NW.then_ ?_
    refine CW.seq ?_
    refine CW.seq ?_
    refine CW.region ?_
    refine LW.move rfl rfl ?_
    refine LW.eql true rfl rfl (beq_iff_eq.2 (by omega)) rfl ?_
    refine LW.nil ?_
    refine NW.then_ ?_
    refine CW.cond_true rfl ?_
    refine CW.seq ?_
    refine CW.region ?_
    refine LW.move rfl rfl ?_
    refine LW.ifaceNil false rfl Tryf.underlying26 (.inr ⟨chainV_iface l c, rfl⟩) rfl ?_
    refine LW.assign rfl rfl ?_
    refine LW.nil ?_
    refine NW.then_ ?_
    refine CW.ret ?_
    refine NW.then_ret ?_
    refine NW.ret1 rfl rfl ⟨_, ⟨rfl, rfl⟩, ?_⟩
    exact Sub.one (by repeat (first | exact Take.head _ _ | apply Take.tail))
  · rw [if_neg h2]
    refine Spec.enter ([chainR l (eno c)]) Tryf.func10 rfl Tryf.ntmps10 rfl (by first | rfl | simp) (fun w0 => ?_)
    refine CW.seq ?_
    refine CW.region ?_
    refine LW.assign rfl rfl ?_
    refine LW.nil ?_
    refine NW.then_ ?_
    refine CW.seq ?_
    refine CW.seq ?_
    refine CW.region ?_
    refine LW.move rfl rfl ?_
    refine LW.eql false rfl rfl (beq_eq_false_iff_ne.2 (by omega)) rfl ?_
    refine LW.nil ?_
    refine NW.then_ ?_
    refine CW.cond_false rfl ?_
    refine CW.skip ?_
    refine NW.then_ ?_
    refine CW.seq ?_
    refine CW.region ?_
    refine LW.move rfl rfl ?_
    refine LW.move rfl rfl ?_
    refine LW.mkIface rfl FactsFail2.concrete24 rfl ?_
    refine LW.call (errors_Is W B l c c2) Tryf.func11 rfl FactsFail2.fname11 ⟨rfl, rfl, trivial⟩ ((by repeat (first | exact Take.head _ _ | apply Take.tail))) rfl ?_
    rintro _ _ ⟨rfl, rfl⟩
    refine LW.assign rfl rfl ?_
    refine LW.nil ?_
    refine NW.then_ ?_
    refine CW.ret ?_
    refine NW.ret1 rfl rfl ⟨_, ⟨rfl, rfl⟩, ?_⟩
    exact Sub.one (by repeat (first | exact Take.head _ _ | apply Take.tail))

theorem atE (v : Value) (xT : Nat) (w : World) : (Instr.typeAssert (.iface 56 v) xT 56 true).run Tryf.prog w = .ok (.tuple #[v, .bool true]) w := run_typeAssert_same Tryf.underlying56 rfl w
theorem noAtE (v : Value) (xT : Nat) (w : World) : (Instr.typeAssert (.iface 24 v) xT 56 true).run Tryf.prog w = .ok (.tuple #[.pointer none, .bool false]) w := run_typeAssert_other Tryf.underlying56 rfl (by decide) (by kernel_rfl) w

theorem fail_Where (l : List (Nat × List UInt8)) (c : Int) (hl : l.length ≤ 1000000) :
    Spec Tryf.prog W B 8 [chainV l (eno c)] (chainR l (eno c)) (fun r post => ∃ ch, OwnS 9 1 r l.length (l.map (fun x => strV x.2)) ch ∧ post = ch ++ chainR l (eno c)) := by
  refine Spec.enter ([chainR l (eno c)]) Tryf.func8 rfl Tryf.ntmps8 rfl (by first | rfl | simp) (fun w0 => ?_)
  refine CW.seq ?_
  refine CW.region ?_
  refine LW.assign rfl rfl ?_
  refine LW.nil ?_
  refine NW.then_ ?_
  refine CW.seq ?_
  refine CW.region ?_
  refine LW.assign rfl rfl ?_
  refine LW.nil ?_
  refine NW.then_ ?_
  refine CW.block ?_
  refine CW.loop (fun st : List (Nat × List UInt8) × Value × List Row => [(0, chainV st.1 (eno c)), (3, st.2.1)]) (fun st => [st.2.2, chainR l (eno c)]) (fun st => ∃ q, l = q ++ st.1 ∧ OwnS 9 1 st.2.1 q.length (q.map (fun x => strV x.2)) st.2.2) (fun st => st.1.length) (l, .slice none 0 0, []) ?st2_j ?st2_e ?st2_h ?st2_r
  case st2_j => exact ⟨[], rfl, OwnS.nil⟩
  case st2_e => repeat (first | exact Env.Le.nil _ | refine Env.Le.cons rfl ?_)
  case st2_h => repeat (first | exact Sub.heap_nil _ | exact Sub.refl _ | refine Sub.heap_cons (Take.none _) ?_ | refine Sub.heap_cons (by repeat (first | exact Take.head _ _ | apply Take.tail)) ?_)
  case st2_r =>
    rintro ⟨r, v, ch⟩ ⟨q, hq, ho⟩; dsimp only at hq ho
    refine CW.block ?_
    refine CW.seq ?_
    refine CW.region ?_
    rcases r with _ | ⟨⟨p, s⟩, r⟩
    · refine LW.move rfl rfl ?_
      refine LW.tassert rfl (fun w => noAtE _ _ w) rfl ?_
      refine LW.move rfl rfl ?_
      refine LW.extract rfl rfl rfl ?_
      refine LW.extract rfl rfl rfl ?_
      refine LW.assign rfl rfl ?_
      refine LW.assign rfl rfl ?_
      refine LW.nil ?_
      refine NW.then_ ?_
      refine CW.seq ?_
      refine CW.seq ?_
      refine CW.region ?_
      refine LW.move rfl rfl ?_
      refine LW.not _ rfl rfl rfl ?_
      refine LW.nil ?_
      refine NW.then_ ?_
      refine CW.cond_true rfl ?_
      refine CW.seq ?_
      rw [List.append_nil] at hq
      subst hq
      refine CW.region ?_
      refine LW.move rfl rfl ?_
      refine LW.assign rfl rfl ?_
      refine LW.nil ?_
      refine NW.then_ ?_
      refine CW.ret ?_
      refine NW.then_ret ?_
      refine NW.block_ret ?_
      refine NW.then_ret ?_
      refine NW.block_ret ?_
      refine NW.ret1 rfl rfl ⟨_, ⟨ch, ho, rfl⟩, ?_⟩
      exact Sub.take (by repeat (first | exact Take.head _ _ | apply Take.tail)) (Sub.one (by repeat (first | exact Take.head _ _ | apply Take.tail)))
    · refine LW.move rfl rfl ?_
      refine LW.tassert rfl (fun w => atE _ _ w) rfl ?_
      refine LW.move rfl rfl ?_
      refine LW.extract rfl rfl rfl ?_
      refine LW.extract rfl rfl rfl ?_
      refine LW.assign rfl rfl ?_
      refine LW.assign rfl rfl ?_
      refine LW.nil ?_
      refine NW.then_ ?_
      refine CW.seq ?_
      refine CW.seq ?_
      refine CW.region ?_
      refine LW.move rfl rfl ?_
      refine LW.not _ rfl rfl rfl ?_
      refine LW.nil ?_
      refine NW.then_ ?_
      refine CW.cond_false rfl ?_
      refine CW.skip ?_
      refine NW.then_ ?_
      have hm : cr p 58 [strV s, chainV r (eno c)] ∈ chainR l (eno c) := by rw [hq]; exact chainR_mem q p s r (eno c)
      have hql : q.length < l.length := by rw [hq]; simp
      refine CW.drawH (chainR l (eno c)) FactsFail2.mixed ?_
      refine AW.takes [0, 1, 2, 3, 4, 7, 8, 9, 10] 4 (by kernel_rfl) (by kernel_rfl) rfl (by repeat (first | exact PO.body | refine PO.then_ ?_ | refine PO.block ?_ | refine PO.noGoto ?_)) (fun _ s => Held.of s (Sub.one (by repeat (first | exact Take.head _ _ | apply Take.tail)))) ?_
      refine TW.take rfl (Yl.move rfl) rfl ?_
      refine TW.take rfl (Yl.move rfl) rfl ?_
      refine TW.take rfl (Yl.nilPtr rfl) rfl ?_
      refine TW.take rfl (Yl.fieldAddr _ rfl (fun _ => FactsFail2.fa58_0 _ _ _)) rfl ?_
      refine TW.take rfl (Yl.loadIn rfl hm rfl FactsFail2.one9) rfl ?_
      refine TW.take rfl (Yl.move rfl) rfl ?_
      refine TW.take rfl (Yl.nilPtr rfl) rfl ?_
      refine TW.take rfl (Yl.fieldAddr _ rfl (fun _ => FactsFail2.fa58_1 _ _ _)) rfl ?_
      refine TW.take rfl (Yl.loadIn rfl hm rfl FactsFail2.one26) rfl ?_
      refine TW.nil ?_
      refine AW.act 5 (by kernel_rfl) rfl ?_
      refine LW.buildSlice (vs := [_]) ⟨rfl, trivial⟩ rfl (by intro v hv; simp at hv; subst hv; rfl) Tryf.underlying22 FactsFail2.info9 rfl (by decide) (by decide) rfl ?_
      intro bs19
      refine LW.nil ?_
      refine AW.back (fun _ s => Held.of s (Sub.one (by repeat (first | exact Take.head _ _ | apply Take.tail)))) ?_
      refine AW.act 6 (by kernel_rfl) rfl ?_
      refine LW.append ([strV s]) rfl rfl Tryf.underlying22 Tryf.underlying22 (.inr ⟨_, rfl⟩) FactsFail2.info9 rfl (ho) (by repeat (first | exact Take.head _ _ | apply Take.tail)) (fun _ => lenOf_slice _ _ _ _) (first_rd (RdAt.row (by repeat (first | exact Take.head _ _ | apply Take.tail)) (fun j v hj => by rw [Nat.zero_add]; exact hj)) rfl (fun h => (by cases h))) (rfl) (by intro u hu; simp at hu; subst hu; rfl) (by omega) (by omega) rfl ?_
      intro v' ch' ho'
      refine LW.nil ?_
      refine AW.back (fun _ s => Held.of s (Sub.one (by repeat (first | exact Take.head _ _ | apply Take.tail)))) ?_
      refine AW.takes [11, 12] 0 (by kernel_rfl) (by kernel_rfl) rfl (by repeat (first | exact PO.body | refine PO.then_ ?_ | refine PO.block ?_ | refine PO.noGoto ?_)) (fun _ s => Held.of s (Sub.one (by repeat (first | exact Take.head _ _ | apply Take.tail)))) ?_
      refine TW.take rfl (Yl.assign rfl) rfl ?_
      refine TW.take rfl (Yl.assign rfl) rfl ?_
      refine TW.nil ?_
      refine AW.done (by kernel_rfl) ?_
      refine NW.block ?_
      refine NW.meet ((r, v', ch')) ?j1 ?e1 ?h1
      case j1 => exact ⟨⟨q ++ [(p, s)], by rw [hq]; simp, by simpa using ho'⟩, Nat.lt_succ_self _⟩
      case e1 => repeat (first | exact Env.Le.nil _ | refine Env.Le.cons rfl ?_)
      case h1 => repeat (first | exact Sub.heap_nil _ | exact Sub.refl _ | refine Sub.heap_cons (Take.none _) ?_ | refine Sub.heap_cons (by repeat (first | exact Take.head _ _ | apply Take.tail)) ?_)
end
end Go.Proofs.YtemdebmfdhamgaaFmt
