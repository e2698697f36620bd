/-
  errors.Is, fail.Is, fail.At, fail.Where over chains of both kinds.
-/
import Derived.Test.YtemdebmfdhamgaaFmtFAs
namespace Go.Proofs.YtemdebmfdhamgaaFmt
open Go.RowKit Go.Extern
namespace FactsFIs
theorem concrete24 : Tryf.prog.concrete 24 = true := by kernel_rfl
theorem concrete56 : Tryf.prog.concrete 56 = true := by kernel_rfl
theorem fa58_0 (b o : Nat) (w : World) : (Instr.fieldAt 58 (.pointer (some ⟨b, o, none⟩)) 0).run Tryf.prog w = .ok (.pointer (some ⟨b, o, none⟩)) w := by kernel_rfl
theorem fa58_1 (b o : Nat) (w : World) : (Instr.fieldAt 58 (.pointer (some ⟨b, o, none⟩)) 1).run Tryf.prog w = .ok (.pointer (some ⟨b, o + 1, none⟩)) w := by kernel_rfl
theorem fname11 : (Tryf.f11.name == "runtime.NumGoroutine") = false := by kernel_rfl
theorem fname28 : (Tryf.f28.name == "runtime.NumGoroutine") = false := by kernel_rfl
theorem info9 : (Tryf.prog.info? 9).map (fun i => (i.zero, i.size, i.bytes)) = some (some (.string ⟨#[]⟩), 1, 16) := by kernel_rfl
theorem mixed : Tryf.prog.follows .mixedOrders = true := by kernel_rfl
theorem one26 : oneB Tryf.prog 26 = true := by kernel_rfl
theorem one9 : oneB Tryf.prog 9 = true := by kernel_rfl
end FactsFIs
/-- The places told at the top of a chain. -/
def whereL : List Lk → List (List UInt8)
  | (false, _, s) :: r => s :: whereL r
  | _ => []
theorem whereL_le : ∀ l : List Lk, (whereL l).length ≤ l.length
  | [] => Nat.le_refl _
  | (false, _, _) :: r => by simp only [whereL, List.length_cons]; have := whereL_le r; omega
  | (true, _, _) :: r => by simp [whereL]
def ats (l : List (Nat × List UInt8)) : List Lk := l.map fun x => (false, x.1, x.2)
theorem whereL_ats : ∀ (q : List (Nat × List UInt8)) (r : List Lk), whereL (ats q ++ r) = q.map (·.2) ++ whereL r
  | [], r => rfl
  | a :: q, r => by
    show a.2 :: whereL (ats q ++ r) = _
    rw [whereL_ats q r]; rfl
section
variable (W : World) (B : Nat)
theorem c_is (l : List Lk) (c c2 : Int) :
    Spec Tryf.prog W B 28 [cV l (eno c), eno c2, .bool true] (cR l (eno c)) (fun r post => r = .bool (c == c2) ∧ post = cR l (eno c)) := by
  refine Spec.enter ([cR l (eno c)]) Tryf.func28 rfl Tryf.ntmps28 rfl (by first | rfl | simp) (fun w0 => ?_)
  refine CW.seq ?_
  refine CW.region ?_
  refine LW.assign rfl rfl ?_
  refine LW.nil ?_
  refine NW.then_ ?_
  refine CW.block ?_
  refine CW.loop (fun r : List Lk => [(0, cV r (eno c)), (1, eno c2), (2, .bool true)]) (fun _ => [cR l (eno c)]) (fun r => ∃ q, l = q ++ r) List.length l ?st1_j ?st1_e ?st1_h ?st1_r
  case st1_j => exact ⟨[], rfl⟩
  case st1_e => repeat (first | exact Env.Le.nil _ | refine Env.Le.cons rfl ?_)
  case st1_h => repeat (first | exact Sub.heap_nil _ | exact Sub.refl _ | refine Sub.heap_cons (Take.none _) ?_ | refine Sub.heap_cons (by repeat (first | exact Take.head _ _ | apply Take.tail)) ?_)
  case st1_r =>
    rintro r ⟨q, hq⟩
    refine CW.block ?_
    refine CW.seq ?_
    refine CW.seq ?_
    refine CW.region ?_
    refine LW.move rfl rfl ?_
    refine LW.move rfl rfl ?_
    rcases r with _ | ⟨⟨lb, p, s⟩, r⟩
    · refine LW.on 15 rfl rfl ?_
      refine LW.move rfl rfl ?_
      refine LW.on 15 rfl rfl ?_
      refine LW.move rfl rfl ?_
      refine LW.on 15 rfl rfl ?_
      refine LW.ifaceEqInt (c == c2) rfl rfl Tryf.underlying26 Tryf.underlying24 compErrno rfl rfl ?_
      refine LW.pickT rfl rfl rfl ?_
      refine LW.nil ?_
      refine NW.then_ ?_
      refine CW.cond rfl (fun hc19 => ?_) (fun hc19 => ?_)
      · have hcc : (c == c2) = true := hc19
        refine CW.seq ?_
        refine CW.region ?_
        refine LW.assign rfl rfl ?_
        refine LW.nil ?_
        refine NW.then_ ?_
        refine CW.ret ?_
        refine NW.then_ret ?_
        refine NW.block_ret ?_
        refine NW.then_ret ?_
        refine NW.block_ret ?_
        refine NW.ret1 rfl rfl ⟨_, ⟨by rw [hcc], rfl⟩, ?_⟩
        exact Sub.one (by repeat (first | exact Take.head _ _ | apply Take.tail))
      · have hcc : (c == c2) = false := hc19
        refine CW.skip ?_
        refine NW.then_ ?_
        refine CW.seq ?_
        refine CW.seq ?_
        refine CW.region ?_
        refine LW.move rfl rfl ?_
        refine LW.tassert rfl (fun w => noIsE _ _ w) rfl ?_
        refine LW.move rfl rfl ?_
        refine LW.extract rfl rfl rfl ?_
        refine LW.extract rfl rfl rfl ?_
        refine LW.assign rfl rfl ?_
        refine LW.assign rfl rfl ?_
        refine LW.nil ?_
        refine NW.then_ ?_
        refine CW.seq ?_
        refine CW.region ?_
        refine LW.move rfl rfl ?_
        refine LW.move rfl rfl ?_
        refine LW.off 26 rfl rfl rfl rfl ?_
        refine LW.off 26 rfl rfl rfl rfl ?_
        refine LW.off 26 rfl rfl rfl rfl ?_
        refine LW.pickF rfl rfl rfl ?_
        refine LW.nil ?_
        refine NW.then_ ?_
        refine CW.cond_false rfl ?_
        refine CW.skip ?_
        refine NW.then_ ?_
        refine CW.seq ?_
        refine CW.region ?_
        refine LW.move rfl rfl ?_
        refine LW.nil ?_
        refine NW.then_ ?_
        refine CW.block ?_
        refine CW.seq ?_
        refine CW.region ?_
        refine LW.tassert rfl (fun w => noUnwE _ _ w) rfl ?_
        refine LW.extract rfl rfl rfl ?_
        refine LW.extract rfl rfl rfl ?_
        refine LW.nil ?_
        refine NW.then_ ?_
        refine CW.cond_false rfl ?_
        refine CW.seq ?_
        refine CW.region ?_
        refine LW.tassert rfl (fun w => noUnwsE _ _ w) rfl ?_
        refine LW.extract rfl rfl rfl ?_
        refine LW.extract rfl rfl rfl ?_
        refine LW.nil ?_
        refine NW.then_ ?_
        refine CW.cond_false rfl ?_
        refine CW.seq ?_
        refine CW.region ?_
        refine LW.assign rfl rfl ?_
        refine LW.nil ?_
        refine NW.then_ ?_
        refine CW.seq ?_
        refine CW.region ?_
        refine LW.assign rfl rfl ?_
        refine LW.nil ?_
        refine NW.then_ ?_
        refine CW.ret ?_
        refine NW.block_ret ?_
        refine NW.block_ret ?_
        refine NW.then_ret ?_
        refine NW.block_ret ?_
        refine NW.ret1 rfl rfl ⟨_, ⟨by rw [hcc], rfl⟩, ?_⟩
        exact Sub.one (by repeat (first | exact Take.head _ _ | apply Take.tail))
    · refine LW.on 15 rfl rfl ?_
      refine LW.move rfl rfl ?_
      refine LW.on 15 rfl rfl ?_
      refine LW.move rfl rfl ?_
      refine LW.on 15 rfl rfl ?_
      refine LW.ifaceEqNe (tx := lkT lb) rfl rfl Tryf.underlying26 (lkT_ne lb).1 rfl ?_
      refine LW.pickT rfl rfl rfl ?_
      refine LW.nil ?_
      refine NW.then_ ?_
      refine CW.cond_false rfl ?_
      refine CW.skip ?_
      refine NW.then_ ?_
      refine CW.seq ?_
      refine CW.seq ?_
      refine CW.region ?_
      refine LW.move rfl rfl ?_
      refine LW.tassert rfl (fun w => noIsL lb _ _ w) rfl ?_
      refine LW.move rfl rfl ?_
      refine LW.extract rfl rfl rfl ?_
      refine LW.extract rfl rfl rfl ?_
      refine LW.assign rfl rfl ?_
      refine LW.assign rfl rfl ?_
      refine LW.nil ?_
      refine NW.then_ ?_
      refine CW.seq ?_
      refine CW.region ?_
      refine LW.move rfl rfl ?_
      refine LW.move rfl rfl ?_
      refine LW.off 26 rfl rfl rfl rfl ?_
      refine LW.off 26 rfl rfl rfl rfl ?_
      refine LW.off 26 rfl rfl rfl rfl ?_
      refine LW.pickF rfl rfl rfl ?_
      refine LW.nil ?_
      refine NW.then_ ?_
      refine CW.cond_false rfl ?_
      refine CW.skip ?_
      refine NW.then_ ?_
      refine CW.seq ?_
      refine CW.region ?_
      refine LW.move rfl rfl ?_
      refine LW.nil ?_
      refine NW.then_ ?_
      refine CW.block ?_
      refine CW.seq ?_
      refine CW.region ?_
      refine LW.tassert rfl (fun w => unwL lb _ _ w) rfl ?_
      refine LW.extract rfl rfl rfl ?_
      refine LW.extract rfl rfl rfl ?_
      refine LW.nil ?_
      refine NW.then_ ?_
      refine CW.cond_true rfl ?_
      refine CW.seq ?_
      refine CW.region ?_
      refine LW.assign rfl rfl ?_
      refine LW.nil ?_
      refine NW.then_ ?_
      refine CW.seq ?_
      refine CW.region ?_
      refine LW.move rfl rfl ?_
      obtain ⟨fn9, co9, hf9, hb9, hn9⟩ := lk_fn lb
      refine LW.invCall (args := []) rfl (mUnwrapL lb _) (lk_Unwrap W B lb p s (cV r (eno c)) (cR l (eno c)) (by rw [hq]; exact cR_mem q lb p s r (eno c))) hf9 hb9 hn9 trivial (by repeat (first | exact Take.head _ _ | apply Take.tail)) rfl ?_
      rintro _ _ ⟨rfl, rfl⟩
      refine LW.assign rfl rfl ?_
      refine LW.nil ?_
      refine NW.then_ ?_
      refine CW.seq ?_
      refine CW.region ?_
      refine LW.move rfl rfl ?_
      refine LW.ifaceNil false rfl Tryf.underlying26 (.inr ⟨cV_isE r (eno_isE c), rfl⟩) rfl ?_
      refine LW.nil ?_
      refine NW.then_ ?_
      refine CW.cond_false rfl ?_
      refine CW.skip ?_
      refine NW.block ?_
      refine NW.block ?_
      refine NW.meet (r) ?j1 ?e1 ?h1
      case j1 => exact ⟨⟨q ++ [(lb, p, s)], by rw [hq]; simp⟩, Nat.lt_succ_self _⟩
      case e1 => repeat (first | exact Env.Le.nil _ | refine Env.Le.cons rfl ?_)
      case h1 => repeat (first | exact Sub.heap_nil _ | exact Sub.refl _ | refine Sub.heap_cons (Take.none _) ?_ | refine Sub.heap_cons (by repeat (first | exact Take.head _ _ | apply Take.tail)) ?_)
theorem c_is_pl (l : List Lk) (z : Nat) :
    Spec Tryf.prog W B 28 [cV l (plV z), plV z, .bool true] (cR l (plV z)) (fun r post => r = .bool true ∧ post = cR l (plV z)) := by
  refine Spec.enter ([cR l (plV z)]) Tryf.func28 rfl Tryf.ntmps28 rfl (by first | rfl | simp) (fun w0 => ?_)
  refine CW.seq ?_
  refine CW.region ?_
  refine LW.assign rfl rfl ?_
  refine LW.nil ?_
  refine NW.then_ ?_
  refine CW.block ?_
  refine CW.loop (fun r : List Lk => [(0, cV r (plV z)), (1, plV z), (2, .bool true)]) (fun _ => [cR l (plV z)]) (fun r => ∃ q, l = q ++ r) List.length l ?st1_j ?st1_e ?st1_h ?st1_r
  case st1_j => exact ⟨[], rfl⟩
  case st1_e => repeat (first | exact Env.Le.nil _ | refine Env.Le.cons rfl ?_)
  case st1_h => repeat (first | exact Sub.heap_nil _ | exact Sub.refl _ | refine Sub.heap_cons (Take.none _) ?_ | refine Sub.heap_cons (by repeat (first | exact Take.head _ _ | apply Take.tail)) ?_)
  case st1_r =>
    rintro r ⟨q, hq⟩
    refine CW.block ?_
    refine CW.seq ?_
    refine CW.seq ?_
    refine CW.region ?_
    refine LW.move rfl rfl ?_
    refine LW.move rfl rfl ?_
    rcases r with _ | ⟨⟨lb, p, s⟩, r⟩
    · refine LW.on 15 rfl rfl ?_
      refine LW.move rfl rfl ?_
      refine LW.on 15 rfl rfl ?_
      refine LW.move rfl rfl ?_
      refine LW.on 15 rfl rfl ?_
      refine LW.ifaceEqPtr rfl rfl Tryf.underlying26 Tryf.underlying76 compPl sizePl rfl ?_
      refine LW.pickT rfl rfl rfl ?_
      refine LW.nil ?_
      refine NW.then_ ?_
      refine CW.cond_true rfl ?_
      refine CW.seq ?_
      refine CW.region ?_
      refine LW.assign rfl rfl ?_
      refine LW.nil ?_
      refine NW.then_ ?_
      refine CW.ret ?_
      refine NW.then_ret ?_
      refine NW.block_ret ?_
      refine NW.then_ret ?_
      refine NW.block_ret ?_
      refine NW.ret1 rfl rfl ⟨_, ⟨rfl, rfl⟩, ?_⟩
      exact Sub.one (by repeat (first | exact Take.head _ _ | apply Take.tail))
    · refine LW.on 15 rfl rfl ?_
      refine LW.move rfl rfl ?_
      refine LW.on 15 rfl rfl ?_
      refine LW.move rfl rfl ?_
      refine LW.on 15 rfl rfl ?_
      refine LW.ifaceEqNe (tx := lkT lb) rfl rfl Tryf.underlying26 (lkT_ne lb).2 rfl ?_
      refine LW.pickT rfl rfl rfl ?_
      refine LW.nil ?_
      refine NW.then_ ?_
      refine CW.cond_false rfl ?_
      refine CW.skip ?_
      refine NW.then_ ?_
      refine CW.seq ?_
      refine CW.seq ?_
      refine CW.region ?_
      refine LW.move rfl rfl ?_
      refine LW.tassert rfl (fun w => noIsL lb _ _ w) rfl ?_
      refine LW.move rfl rfl ?_
      refine LW.extract rfl rfl rfl ?_
      refine LW.extract rfl rfl rfl ?_
      refine LW.assign rfl rfl ?_
      refine LW.assign rfl rfl ?_
      refine LW.nil ?_
      refine NW.then_ ?_
      refine CW.seq ?_
      refine CW.region ?_
      refine LW.move rfl rfl ?_
      refine LW.move rfl rfl ?_
      refine LW.off 26 rfl rfl rfl rfl ?_
      refine LW.off 26 rfl rfl rfl rfl ?_
      refine LW.off 26 rfl rfl rfl rfl ?_
      refine LW.pickF rfl rfl rfl ?_
      refine LW.nil ?_
      refine NW.then_ ?_
      refine CW.cond_false rfl ?_
      refine CW.skip ?_
      refine NW.then_ ?_
      refine CW.seq ?_
      refine CW.region ?_
      refine LW.move rfl rfl ?_
      refine LW.nil ?_
      refine NW.then_ ?_
      refine CW.block ?_
      refine CW.seq ?_
      refine CW.region ?_
      refine LW.tassert rfl (fun w => unwL lb _ _ w) rfl ?_
      refine LW.extract rfl rfl rfl ?_
      refine LW.extract rfl rfl rfl ?_
      refine LW.nil ?_
      refine NW.then_ ?_
      refine CW.cond_true rfl ?_
      refine CW.seq ?_
      refine CW.region ?_
      refine LW.assign rfl rfl ?_
      refine LW.nil ?_
      refine NW.then_ ?_
      refine CW.seq ?_
      refine CW.region ?_
      refine LW.move rfl rfl ?_
      obtain ⟨fn9, co9, hf9, hb9, hn9⟩ := lk_fn lb
      refine LW.invCall (args := []) rfl (mUnwrapL lb _) (lk_Unwrap W B lb p s (cV r (plV z)) (cR l (plV z)) (by rw [hq]; exact cR_mem q lb p s r (plV z))) hf9 hb9 hn9 trivial (by repeat (first | exact Take.head _ _ | apply Take.tail)) rfl ?_
      rintro _ _ ⟨rfl, rfl⟩
      refine LW.assign rfl rfl ?_
      refine LW.nil ?_
      refine NW.then_ ?_
      refine CW.seq ?_
      refine CW.region ?_
      refine LW.move rfl rfl ?_
      refine LW.ifaceNil false rfl Tryf.underlying26 (.inr ⟨cV_isE r (plV_isE z), rfl⟩) rfl ?_
      refine LW.nil ?_
      refine NW.then_ ?_
      refine CW.cond_false rfl ?_
      refine CW.skip ?_
      refine NW.block ?_
      refine NW.block ?_
      refine NW.meet (r) ?j1 ?e1 ?h1
      case j1 => exact ⟨⟨q ++ [(lb, p, s)], by rw [hq]; simp⟩, Nat.lt_succ_self _⟩
      case e1 => repeat (first | exact Env.Le.nil _ | refine Env.Le.cons rfl ?_)
      case h1 => repeat (first | exact Sub.heap_nil _ | exact Sub.refl _ | refine Sub.heap_cons (Take.none _) ?_ | refine Sub.heap_cons (by repeat (first | exact Take.head _ _ | apply Take.tail)) ?_)
theorem c_Is (l : List Lk) (c c2 : Int) :
    Spec Tryf.prog W B 11 [cV l (eno c), eno c2] (cR l (eno c)) (fun r post => r = .bool (c == c2) ∧ post = cR l (eno c)) := by
  refine Spec.enter ([cR l (eno c)]) Tryf.func11 rfl Tryf.ntmps11 rfl (by first | rfl | simp) (fun w0 => ?_)
  refine CW.seq ?_
  refine CW.region ?_
  refine LW.assign rfl rfl ?_
  refine LW.nil ?_
  refine NW.then_ ?_
  refine CW.seq ?_
  refine CW.seq ?_
  refine CW.region ?_
  refine LW.move rfl rfl ?_
  refine LW.ifaceNil false rfl Tryf.underlying26 (.inr ⟨cV_isE l (eno_isE c), rfl⟩) rfl ?_
  refine LW.move rfl rfl ?_
  refine LW.on 8 rfl rfl ?_
  refine LW.move rfl rfl ?_
  refine LW.on 8 rfl rfl ?_
  refine LW.ifaceNil _ rfl Tryf.underlying26 (.inr ⟨⟨_, _, rfl⟩, rfl⟩) rfl ?_
  refine LW.pickF rfl rfl rfl ?_
  refine LW.nil ?_
  refine NW.then_ ?_
  refine CW.cond_false rfl ?_
  refine CW.skip ?_
  refine NW.then_ ?_
  refine CW.seq ?_
  refine CW.region ?_
  refine LW.move rfl rfl ?_
  refine LW.ext (args := [eno c2]) (rty 24) xTypeOf ⟨rfl, trivial⟩ (fun w _ => typeOfE w c2) rfl ?_
  refine LW.invExt (args := []) (.bool true) rfl (mComp _) xComp trivial (fun w _ => compE w) rfl ?_
  refine LW.assign rfl rfl ?_
  refine LW.nil ?_
  refine NW.then_ ?_
  refine CW.seq ?_
  refine CW.region ?_
  refine LW.move rfl rfl ?_
  refine LW.move rfl rfl ?_
  refine LW.move rfl rfl ?_
  refine LW.call (c_is W B l c c2) Tryf.func28 rfl FactsFIs.fname28 ⟨rfl, rfl, rfl, trivial⟩ ((by repeat (first | exact Take.head _ _ | apply Take.tail))) rfl ?_
  rintro _ _ ⟨rfl, rfl⟩
  refine LW.assign rfl rfl ?_
  refine LW.nil ?_
  refine NW.then_ ?_
  refine CW.ret ?_
  refine NW.ret1 rfl rfl ⟨_, ⟨rfl, rfl⟩, ?_⟩
  exact Sub.one (by repeat (first | exact Take.head _ _ | apply Take.tail))
theorem c_Is_pl (l : List Lk) (z : Nat) :
    Spec Tryf.prog W B 11 [cV l (plV z), plV z] (cR l (plV z)) (fun r post => r = .bool true ∧ post = cR l (plV z)) := by
  refine Spec.enter ([cR l (plV z)]) Tryf.func11 rfl Tryf.ntmps11 rfl (by first | rfl | simp) (fun w0 => ?_)
  refine CW.seq ?_
  refine CW.region ?_
  refine LW.assign rfl rfl ?_
  refine LW.nil ?_
  refine NW.then_ ?_
  refine CW.seq ?_
  refine CW.seq ?_
  refine CW.region ?_
  refine LW.move rfl rfl ?_
  refine LW.ifaceNil false rfl Tryf.underlying26 (.inr ⟨cV_isE l (plV_isE z), rfl⟩) rfl ?_
  refine LW.move rfl rfl ?_
  refine LW.on 8 rfl rfl ?_
  refine LW.move rfl rfl ?_
  refine LW.on 8 rfl rfl ?_
  refine LW.ifaceNil _ rfl Tryf.underlying26 (.inr ⟨⟨_, _, rfl⟩, rfl⟩) rfl ?_
  refine LW.pickF rfl rfl rfl ?_
  refine LW.nil ?_
  refine NW.then_ ?_
  refine CW.cond_false rfl ?_
  refine CW.skip ?_
  refine NW.then_ ?_
  refine CW.seq ?_
  refine CW.region ?_
  refine LW.move rfl rfl ?_
  refine LW.ext (args := [plV z]) (rty 76) xTypeOf ⟨rfl, trivial⟩ (fun w _ => typeOfP z w) rfl ?_
  refine LW.invExt (args := []) (.bool true) rfl (mComp _) xComp trivial (fun w _ => compP w) rfl ?_
  refine LW.assign rfl rfl ?_
  refine LW.nil ?_
  refine NW.then_ ?_
  refine CW.seq ?_
  refine CW.region ?_
  refine LW.move rfl rfl ?_
  refine LW.move rfl rfl ?_
  refine LW.move rfl rfl ?_
  refine LW.call (c_is_pl W B l z) Tryf.func28 rfl FactsFIs.fname28 ⟨rfl, rfl, rfl, trivial⟩ ((by repeat (first | exact Take.head _ _ | apply Take.tail))) rfl ?_
  rintro _ _ ⟨rfl, rfl⟩
  refine LW.assign rfl rfl ?_
  refine LW.nil ?_
  refine NW.then_ ?_
  refine CW.ret ?_
  refine NW.ret1 rfl rfl ⟨_, ⟨rfl, rfl⟩, ?_⟩
  exact Sub.one (by repeat (first | exact Take.head _ _ | apply Take.tail))
theorem c_FIs (l : List Lk) (c c2 : Int) :
    Spec Tryf.prog W B 10 [cV l (eno c), .int .i64 c2] (cR l (eno c)) (fun r post => r = .bool (if c2 = 0 then false else c == c2) ∧ post = cR l (eno c)) := by
  by_cases h2 : c2 = 0
  · rw [if_pos h2]
    refine Spec.enter ([cR l (eno c)]) Tryf.func10 rfl Tryf.ntmps10 rfl (by first | rfl | simp) (fun w0 => ?_)
    refine CW.seq ?_
    refine CW.region ?_
    refine LW.assign rfl rfl ?_
    refine LW.nil ?_
    refine NW.then_ ?_
    refine CW.seq ?_
    refine CW.seq ?_
    refine CW.region ?_
    refine LW.move rfl rfl ?_
    refine LW.eql true rfl rfl (beq_iff_eq.2 (by omega)) rfl ?_
    refine LW.nil ?_
    refine NW.then_ ?_
    refine CW.cond_true rfl ?_
    refine CW.seq ?_
    refine CW.region ?_
    refine LW.move rfl rfl ?_
    refine LW.ifaceNil false rfl Tryf.underlying26 (.inr ⟨cV_isE l (eno_isE c), rfl⟩) rfl ?_
    refine LW.assign rfl rfl ?_
    refine LW.nil ?_
    refine NW.then_ ?_
    refine CW.ret ?_
    refine NW.then_ret ?_
    refine NW.ret1 rfl rfl ⟨_, ⟨rfl, rfl⟩, ?_⟩
    exact Sub.one (by repeat (first | exact Take.head _ _ | apply Take.tail))
  · rw [if_neg h2]
    refine Spec.enter ([cR l (eno c)]) Tryf.func10 rfl Tryf.ntmps10 rfl (by first | rfl | simp) (fun w0 => ?_)
    refine CW.seq ?_
    refine CW.region ?_
    refine LW.assign rfl rfl ?_
    refine LW.nil ?_
    refine NW.then_ ?_
    refine CW.seq ?_
    refine CW.seq ?_
    refine CW.region ?_
    refine LW.move rfl rfl ?_
    refine LW.eql false rfl rfl (beq_eq_false_iff_ne.2 (by omega)) rfl ?_
    refine LW.nil ?_
    refine NW.then_ ?_
    refine CW.cond_false rfl ?_
    refine CW.skip ?_
    refine NW.then_ ?_
    refine CW.seq ?_
    refine CW.region ?_
    refine LW.move rfl rfl ?_
    refine LW.move rfl rfl ?_
    refine LW.mkIface rfl FactsFIs.concrete24 rfl ?_
    refine LW.call (c_Is W B l c c2) Tryf.func11 rfl FactsFIs.fname11 ⟨rfl, rfl, trivial⟩ ((by repeat (first | exact Take.head _ _ | apply Take.tail))) rfl ?_
    rintro _ _ ⟨rfl, rfl⟩
    refine LW.assign rfl rfl ?_
    refine LW.nil ?_
    refine NW.then_ ?_
    refine CW.ret ?_
    refine NW.ret1 rfl rfl ⟨_, ⟨rfl, rfl⟩, ?_⟩
    exact Sub.one (by repeat (first | exact Take.head _ _ | apply Take.tail))
theorem c_At (s : List UInt8) (l : List Lk) (c : Int) (hc : l = [] → c ≠ 0) :
    Spec Tryf.prog W B 6 [strV s, cV l (eno c)] (cR l (eno c)) (fun r post => ∃ p, r = cV ((false, p, s) :: l) (eno c) ∧ post = cR ((false, p, s) :: l) (eno c)) := by
  rcases l with _ | ⟨⟨lb, p, s0⟩, l⟩
  · have hc0 : c ≠ 0 := hc rfl
    refine Spec.enter ([cR [] (eno c)]) Tryf.func6 rfl Tryf.ntmps6 rfl (by first | rfl | simp) (fun w0 => ?_)
    refine CW.seq ?_
    refine CW.region ?_
    refine LW.assign rfl rfl ?_
    refine LW.nil ?_
    refine NW.then_ ?_
    refine CW.seq ?_
    refine CW.seq ?_
    refine CW.region ?_
    refine LW.move rfl rfl ?_
    refine LW.ifaceNil _ rfl Tryf.underlying26 (.inr ⟨⟨_, _, rfl⟩, rfl⟩) rfl ?_
    refine LW.move rfl rfl ?_
    refine LW.on 7 rfl rfl ?_
    refine LW.move rfl rfl ?_
    refine LW.on 7 rfl rfl ?_
    refine LW.mkIface rfl FactsFIs.concrete24 rfl ?_
    refine LW.on 7 rfl rfl ?_
    refine LW.ifaceEqInt false rfl rfl Tryf.underlying26 Tryf.underlying24 compErrno (beq_eq_false_iff_ne.2 hc0) rfl ?_
    refine LW.pickF rfl rfl rfl ?_
    refine LW.nil ?_
    refine NW.then_ ?_
    refine CW.cond_false rfl ?_
    refine CW.skip ?_
    refine NW.then_ ?_
    refine CW.seq ?_
    refine CW.region ?_
    refine LW.move rfl rfl ?_
    refine LW.move rfl rfl ?_
    refine LW.build (vs := [_, _]) (#[strV s, eno c]) ⟨rfl, rfl, trivial⟩ (by kernel_rfl) rfl ?_
    refine LW.box rfl rfl ?_
    intro bb15
    refine LW.mkIface rfl FactsFIs.concrete56 rfl ?_
    refine LW.assign rfl rfl ?_
    refine LW.nil ?_
    refine NW.then_ ?_
    refine CW.ret ?_
    refine NW.ret1 rfl rfl ⟨_, ⟨bb15, rfl, rfl⟩, ?_⟩
    exact Sub.take (p := [_]) (by repeat (first | exact Take.head _ _ | apply Take.tail)) (Sub.one (by repeat (first | exact Take.head _ _ | apply Take.tail)))
  ·
    refine Spec.enter ([cR ((lb, p, s0) :: l) (eno c)]) Tryf.func6 rfl Tryf.ntmps6 rfl (by first | rfl | simp) (fun w0 => ?_)
    refine CW.seq ?_
    refine CW.region ?_
    refine LW.assign rfl rfl ?_
    refine LW.nil ?_
    refine NW.then_ ?_
    refine CW.seq ?_
    refine CW.seq ?_
    refine CW.region ?_
    refine LW.move rfl rfl ?_
    refine LW.ifaceNil _ rfl Tryf.underlying26 (.inr ⟨⟨_, _, rfl⟩, rfl⟩) rfl ?_
    refine LW.move rfl rfl ?_
    refine LW.on 7 rfl rfl ?_
    refine LW.move rfl rfl ?_
    refine LW.on 7 rfl rfl ?_
    refine LW.mkIface rfl FactsFIs.concrete24 rfl ?_
    refine LW.on 7 rfl rfl ?_
    refine LW.ifaceEqNe (tx := lkT lb) rfl rfl Tryf.underlying26 (lkT_ne lb).1 rfl ?_
    refine LW.pickF rfl rfl rfl ?_
    refine LW.nil ?_
    refine NW.then_ ?_
    refine CW.cond_false rfl ?_
    refine CW.skip ?_
    refine NW.then_ ?_
    refine CW.seq ?_
    refine CW.region ?_
    refine LW.move rfl rfl ?_
    refine LW.move rfl rfl ?_
    refine LW.build (vs := [_, _]) (#[strV s, cV ((lb, p, s0) :: l) (eno c)]) ⟨rfl, rfl, trivial⟩ (by kernel_rfl) rfl ?_
    refine LW.box rfl rfl ?_
    intro bb15
    refine LW.mkIface rfl FactsFIs.concrete56 rfl ?_
    refine LW.assign rfl rfl ?_
    refine LW.nil ?_
    refine NW.then_ ?_
    refine CW.ret ?_
    refine NW.ret1 rfl rfl ⟨_, ⟨bb15, rfl, rfl⟩, ?_⟩
    exact Sub.take (p := [_]) (by repeat (first | exact Take.head _ _ | apply Take.tail)) (Sub.one (by repeat (first | exact Take.head _ _ | apply Take.tail)))
theorem c_At_pl (s : List UInt8) (z : Nat) :
    Spec Tryf.prog W B 6 [strV s, plV z] [] (fun r post => ∃ p, r = cV [(false, p, s)] (plV z) ∧ post = cR [(false, p, s)] (plV z)) := by
  refine Spec.enter ([]) Tryf.func6 rfl Tryf.ntmps6 rfl (by first | rfl | simp) (fun w0 => ?_)
  refine CW.seq ?_
  refine CW.region ?_
  refine LW.assign rfl rfl ?_
  refine LW.nil ?_
  refine NW.then_ ?_
  refine CW.seq ?_
  refine CW.seq ?_
  refine CW.region ?_
  refine LW.move rfl rfl ?_
  refine LW.ifaceNil _ rfl Tryf.underlying26 (.inr ⟨⟨_, _, rfl⟩, rfl⟩) rfl ?_
  refine LW.move rfl rfl ?_
  refine LW.on 7 rfl rfl ?_
  refine LW.move rfl rfl ?_
  refine LW.on 7 rfl rfl ?_
  refine LW.mkIface rfl FactsFIs.concrete24 rfl ?_
  refine LW.on 7 rfl rfl ?_
  refine LW.ifaceEqNe (tx := 76) rfl rfl Tryf.underlying26 (by decide) rfl ?_
  refine LW.pickF rfl rfl rfl ?_
  refine LW.nil ?_
  refine NW.then_ ?_
  refine CW.cond_false rfl ?_
  refine CW.skip ?_
  refine NW.then_ ?_
  refine CW.seq ?_
  refine CW.region ?_
  refine LW.move rfl rfl ?_
  refine LW.move rfl rfl ?_
  refine LW.build (vs := [_, _]) (#[strV s, plV z]) ⟨rfl, rfl, trivial⟩ (by kernel_rfl) rfl ?_
  refine LW.box rfl rfl ?_
  intro bb15
  refine LW.mkIface rfl FactsFIs.concrete56 rfl ?_
  refine LW.assign rfl rfl ?_
  refine LW.nil ?_
  refine NW.then_ ?_
  refine CW.ret ?_
  refine NW.ret1 rfl rfl ⟨_, ⟨bb15, rfl, rfl⟩, ?_⟩
  exact Sub.one (by repeat (first | exact Take.head _ _ | apply Take.tail))
theorem c_At_ok (s : List UInt8) : Spec Tryf.prog W B 6 [strV s, eno 0] [] (fun r post => r = .nilIface ∧ post = []) := by
  refine Spec.enter ([]) Tryf.func6 rfl Tryf.ntmps6 rfl (by first | rfl | simp) (fun w0 => ?_)
  refine CW.seq ?_
  refine CW.region ?_
  refine LW.assign rfl rfl ?_
  refine LW.nil ?_
  refine NW.then_ ?_
  refine CW.seq ?_
  refine CW.seq ?_
  refine CW.region ?_
  refine LW.move rfl rfl ?_
  refine LW.ifaceNil _ rfl Tryf.underlying26 (.inr ⟨⟨_, _, rfl⟩, rfl⟩) rfl ?_
  refine LW.move rfl rfl ?_
  refine LW.on 7 rfl rfl ?_
  refine LW.move rfl rfl ?_
  refine LW.on 7 rfl rfl ?_
  refine LW.mkIface rfl FactsFIs.concrete24 rfl ?_
  refine LW.on 7 rfl rfl ?_
  refine LW.ifaceEqInt true rfl rfl Tryf.underlying26 Tryf.underlying24 compErrno rfl rfl ?_
  refine LW.pickF rfl rfl rfl ?_
  refine LW.nil ?_
  refine NW.then_ ?_
  refine CW.cond_true rfl ?_
  refine CW.seq ?_
  refine CW.region ?_
  refine LW.assign rfl rfl ?_
  refine LW.nil ?_
  refine NW.then_ ?_
  refine CW.ret ?_
  refine NW.then_ret ?_
  refine NW.ret1 rfl rfl ⟨_, ⟨rfl, rfl⟩, ?_⟩
  exact Sub.nil _
theorem c_At_nil (s : List UInt8) : Spec Tryf.prog W B 6 [strV s, .nilIface] [] (fun r post => r = .nilIface ∧ post = []) := by
  refine Spec.enter ([]) Tryf.func6 rfl Tryf.ntmps6 rfl (by first | rfl | simp) (fun w0 => ?_)
  refine CW.seq ?_
  refine CW.region ?_
  refine LW.assign rfl rfl ?_
  refine LW.nil ?_
  refine NW.then_ ?_
  refine CW.seq ?_
  refine CW.seq ?_
  refine CW.region ?_
  refine LW.move rfl rfl ?_
  refine LW.ifaceNil _ rfl Tryf.underlying26 (.inl ⟨rfl, rfl⟩) rfl ?_
  refine LW.move rfl rfl ?_
  refine LW.off 7 rfl rfl rfl rfl ?_
  refine LW.off 7 rfl rfl rfl rfl ?_
  refine LW.off 7 rfl rfl rfl rfl ?_
  refine LW.pickT rfl rfl rfl ?_
  refine LW.nil ?_
  refine NW.then_ ?_
  refine CW.cond_true rfl ?_
  refine CW.seq ?_
  refine CW.region ?_
  refine LW.assign rfl rfl ?_
  refine LW.nil ?_
  refine NW.then_ ?_
  refine CW.ret ?_
  refine NW.then_ret ?_
  refine NW.ret1 rfl rfl ⟨_, ⟨rfl, rfl⟩, ?_⟩
  exact Sub.nil _
theorem c_Code_nil : Spec Tryf.prog W B 9 [.nilIface] [] (fun r post => r = .int .i64 0 ∧ post = []) := by
  refine Spec.enter ([]) Tryf.func9 rfl Tryf.ntmps9 rfl (by first | rfl | simp) (fun w0 => ?_)
  refine CW.seq ?_
  refine CW.region ?_
  refine LW.assign rfl rfl ?_
  refine LW.nil ?_
  refine NW.then_ ?_
  refine CW.seq ?_
  refine CW.seq ?_
  refine CW.region ?_
  refine LW.move rfl rfl ?_
  refine LW.ifaceNil _ rfl Tryf.underlying26 (.inl ⟨rfl, rfl⟩) rfl ?_
  refine LW.nil ?_
  refine NW.then_ ?_
  refine CW.cond_true rfl ?_
  refine CW.seq ?_
  refine CW.region ?_
  refine LW.assign rfl rfl ?_
  refine LW.nil ?_
  refine NW.then_ ?_
  refine CW.ret ?_
  refine NW.then_ret ?_
  refine NW.ret1 rfl rfl ⟨_, ⟨rfl, rfl⟩, ?_⟩
  exact Sub.nil _
theorem c_FIs_nil : Spec Tryf.prog W B 10 [.nilIface, .int .i64 0] [] (fun r post => r = .bool true ∧ post = []) := by
  refine Spec.enter ([]) Tryf.func10 rfl Tryf.ntmps10 rfl (by first | rfl | simp) (fun w0 => ?_)
  refine CW.seq ?_
  refine CW.region ?_
  refine LW.assign rfl rfl ?_
  refine LW.nil ?_
  refine NW.then_ ?_
  refine CW.seq ?_
  refine CW.seq ?_
  refine CW.region ?_
  refine LW.move rfl rfl ?_
  refine LW.eql true rfl rfl (beq_iff_eq.2 (by omega)) rfl ?_
  refine LW.nil ?_
  refine NW.then_ ?_
  refine CW.cond_true rfl ?_
  refine CW.seq ?_
  refine CW.region ?_
  refine LW.move rfl rfl ?_
  refine LW.ifaceNil _ rfl Tryf.underlying26 (.inl ⟨rfl, rfl⟩) rfl ?_
  refine LW.assign rfl rfl ?_
  refine LW.nil ?_
  refine NW.then_ ?_
  refine CW.ret ?_
  refine NW.then_ret ?_
  refine NW.ret1 rfl rfl ⟨_, ⟨rfl, rfl⟩, ?_⟩
  exact Sub.nil _
theorem noAtW (v : Value) (xT : Nat) (w : World) : (Instr.typeAssert (.iface 94 v) xT 56 true).run Tryf.prog w = .ok (.tuple #[.pointer none, .bool false]) w := run_typeAssert_other Tryf.underlying56 rfl (by decide) (by kernel_rfl) w
theorem noAtN (xT : Nat) (w : World) : (Instr.typeAssert .nilIface xT 56 true).run Tryf.prog w = .ok (.tuple #[.pointer none, .bool false]) w := by kernel_rfl
theorem lk_cases (r : List Lk) (c : Int) : (whereL r = [] ∧ ∀ xT w, (Instr.typeAssert (cV r (eno c)) xT 56 true).run Tryf.prog w = .ok (.tuple #[.pointer none, .bool false]) w) ∨ ∃ p s r', r = (false, p, s) :: r' := by
  rcases r with _ | ⟨⟨_ | _, p, s⟩, r⟩
  · exact .inl ⟨rfl, fun xT w => noAtE _ _ w⟩
  · exact .inr ⟨p, s, r, rfl⟩
  · exact .inl ⟨rfl, fun xT w => noAtW _ _ w⟩
theorem c_Where_nil : Spec Tryf.prog W B 8 [.nilIface] [] (fun r post => r = .slice none 0 0 ∧ post = []) := by
  refine Spec.enter ([]) Tryf.func8 rfl Tryf.ntmps8 rfl (by first | rfl | simp) (fun w0 => ?_)
  refine CW.seq ?_
  refine CW.region ?_
  refine LW.assign rfl rfl ?_
  refine LW.nil ?_
  refine NW.then_ ?_
  refine CW.seq ?_
  refine CW.region ?_
  refine LW.assign rfl rfl ?_
  refine LW.nil ?_
  refine NW.then_ ?_
  refine CW.block ?_
  refine CW.loop (fun _ : Unit => [(0, .nilIface), (3, .slice none 0 0)]) (fun _ => []) (fun _ => True) (fun _ => 0) () ?st2_j ?st2_e ?st2_h ?st2_r
  case st2_j => exact trivial
  case st2_e => repeat (first | exact Env.Le.nil _ | refine Env.Le.cons rfl ?_)
  case st2_h => repeat (first | exact Sub.heap_nil _ | exact Sub.refl _ | refine Sub.heap_cons (Take.none _) ?_ | refine Sub.heap_cons (by repeat (first | exact Take.head _ _ | apply Take.tail)) ?_)
  case st2_r =>
    rintro ⟨⟩ _
    refine CW.block ?_
    refine CW.seq ?_
    refine CW.region ?_
    refine LW.move rfl rfl ?_
    refine LW.tassert rfl (fun w => noAtN _ w) rfl ?_
    refine LW.move rfl rfl ?_
    refine LW.extract rfl rfl rfl ?_
    refine LW.extract rfl rfl rfl ?_
    refine LW.assign rfl rfl ?_
    refine LW.assign rfl rfl ?_
    refine LW.nil ?_
    refine NW.then_ ?_
    refine CW.seq ?_
    refine CW.seq ?_
    refine CW.region ?_
    refine LW.move rfl rfl ?_
    refine LW.not _ rfl rfl rfl ?_
    refine LW.nil ?_
    refine NW.then_ ?_
    refine CW.cond_true rfl ?_
    refine CW.seq ?_
    refine CW.region ?_
    refine LW.move rfl rfl ?_
    refine LW.assign rfl rfl ?_
    refine LW.nil ?_
    refine NW.then_ ?_
    refine CW.ret ?_
    refine NW.then_ret ?_
    refine NW.block_ret ?_
    refine NW.then_ret ?_
    refine NW.block_ret ?_
    refine NW.ret1 rfl rfl ⟨_, ⟨rfl, rfl⟩, ?_⟩
    exact Sub.nil _
theorem c_Where (l : List Lk) (c : Int) (hl : l.length ≤ 1000000) :
    Spec Tryf.prog W B 8 [cV l (eno c)] (cR l (eno c)) (fun r post => ∃ ch, OwnS 9 1 r (whereL l).length ((whereL l).map strV) ch ∧ post = ch ++ cR l (eno c)) := by
  refine Spec.enter ([cR l (eno c)]) Tryf.func8 rfl Tryf.ntmps8 rfl (by first | rfl | simp) (fun w0 => ?_)
  refine CW.seq ?_
  refine CW.region ?_
  refine LW.assign rfl rfl ?_
  refine LW.nil ?_
  refine NW.then_ ?_
  refine CW.seq ?_
  refine CW.region ?_
  refine LW.assign rfl rfl ?_
  refine LW.nil ?_
  refine NW.then_ ?_
  refine CW.block ?_
  refine CW.loop (fun st : List Lk × Value × List Row => [(0, cV st.1 (eno c)), (3, st.2.1)]) (fun st => [st.2.2, cR l (eno c)]) (fun st => ∃ q : List (Nat × List UInt8), l = ats q ++ st.1 ∧ OwnS 9 1 st.2.1 q.length (q.map (fun x => strV x.2)) st.2.2) (fun st => st.1.length) (l, .slice none 0 0, []) ?st2_j ?st2_e ?st2_h ?st2_r
  case st2_j => exact ⟨[], rfl, OwnS.nil⟩
  case st2_e => repeat (first | exact Env.Le.nil _ | refine Env.Le.cons rfl ?_)
  case st2_h => repeat (first | exact Sub.heap_nil _ | exact Sub.refl _ | refine Sub.heap_cons (Take.none _) ?_ | refine Sub.heap_cons (by repeat (first | exact Take.head _ _ | apply Take.tail)) ?_)
  case st2_r =>
    rintro ⟨r, v, ch⟩ ⟨q, hq, ho⟩; dsimp only at hq ho
    refine CW.block ?_
    refine CW.seq ?_
    refine CW.region ?_
    rcases lk_cases r c with hs | ⟨p, s, r, rfl⟩
    · refine LW.move rfl rfl ?_
      refine LW.tassert rfl (fun w => hs.2 _ w) rfl ?_
      refine LW.move rfl rfl ?_
      refine LW.extract rfl rfl rfl ?_
      refine LW.extract rfl rfl rfl ?_
      refine LW.assign rfl rfl ?_
      refine LW.assign rfl rfl ?_
      refine LW.nil ?_
      refine NW.then_ ?_
      refine CW.seq ?_
      refine CW.seq ?_
      refine CW.region ?_
      refine LW.move rfl rfl ?_
      refine LW.not _ rfl rfl rfl ?_
      refine LW.nil ?_
      refine NW.then_ ?_
      refine CW.cond_true rfl ?_
      refine CW.seq ?_
      have hw : whereL l = q.map (·.2) := by rw [hq, whereL_ats, hs.1, List.append_nil]
      refine CW.region ?_
      refine LW.move rfl rfl ?_
      refine LW.assign rfl rfl ?_
      refine LW.nil ?_
      refine NW.then_ ?_
      refine CW.ret ?_
      refine NW.then_ret ?_
      refine NW.block_ret ?_
      refine NW.then_ret ?_
      refine NW.block_ret ?_
      refine NW.ret1 rfl rfl ⟨_, ⟨ch, by rw [hw, List.length_map, List.map_map]; exact ho, rfl⟩, ?_⟩
      exact Sub.take (by repeat (first | exact Take.head _ _ | apply Take.tail)) (Sub.one (by repeat (first | exact Take.head _ _ | apply Take.tail)))
    · refine LW.move rfl rfl ?_
      refine LW.tassert rfl (fun w => atE _ _ w) rfl ?_
      refine LW.move rfl rfl ?_
      refine LW.extract rfl rfl rfl ?_
      refine LW.extract rfl rfl rfl ?_
      refine LW.assign rfl rfl ?_
      refine LW.assign rfl rfl ?_
      refine LW.nil ?_
      refine NW.then_ ?_
      refine CW.seq ?_
      refine CW.seq ?_
      refine CW.region ?_
      refine LW.move rfl rfl ?_
      refine LW.not _ rfl rfl rfl ?_
      refine LW.nil ?_
      refine NW.then_ ?_
      refine CW.cond_false rfl ?_
      refine CW.skip ?_
      refine NW.then_ ?_
      have hm : cr p 58 [strV s, cV r (eno c)] ∈ cR l (eno c) := by rw [hq]; exact cR_mem (ats q) false p s r (eno c)
      have hql : q.length < l.length := by rw [hq]; simp [ats]
      refine CW.drawH (cR l (eno c)) FactsFIs.mixed ?_
      refine AW.takes [0, 1, 2, 3, 4, 7, 8, 9, 10] 4 (by kernel_rfl) (by kernel_rfl) rfl (by repeat (first | exact PO.body | refine PO.then_ ?_ | refine PO.block ?_ | refine PO.noGoto ?_)) (fun _ s => Held.of s (Sub.one (by repeat (first | exact Take.head _ _ | apply Take.tail)))) ?_
      refine TW.take rfl (Yl.move rfl) rfl ?_
      refine TW.take rfl (Yl.move rfl) rfl ?_
      refine TW.take rfl (Yl.nilPtr rfl) rfl ?_
      refine TW.take rfl (Yl.fieldAddr _ rfl (fun _ => FactsFIs.fa58_0 _ _ _)) rfl ?_
      refine TW.take rfl (Yl.loadIn rfl hm rfl FactsFIs.one9) rfl ?_
      refine TW.take rfl (Yl.move rfl) rfl ?_
      refine TW.take rfl (Yl.nilPtr rfl) rfl ?_
      refine TW.take rfl (Yl.fieldAddr _ rfl (fun _ => FactsFIs.fa58_1 _ _ _)) rfl ?_
      refine TW.take rfl (Yl.loadIn rfl hm rfl FactsFIs.one26) rfl ?_
      refine TW.nil ?_
      refine AW.act 5 (by kernel_rfl) rfl ?_
      refine LW.buildSlice (vs := [_]) ⟨rfl, trivial⟩ rfl (by intro v hv; simp at hv; subst hv; rfl) Tryf.underlying22 FactsFIs.info9 rfl (by decide) (by decide) rfl ?_
      intro bs19
      refine LW.nil ?_
      refine AW.back (fun _ s => Held.of s (Sub.one (by repeat (first | exact Take.head _ _ | apply Take.tail)))) ?_
      refine AW.act 6 (by kernel_rfl) rfl ?_
      refine LW.append ([strV s]) rfl rfl Tryf.underlying22 Tryf.underlying22 (.inr ⟨_, rfl⟩) FactsFIs.info9 rfl (ho) (by repeat (first | exact Take.head _ _ | apply Take.tail)) (fun _ => lenOf_slice _ _ _ _) (first_rd (RdAt.row (by repeat (first | exact Take.head _ _ | apply Take.tail)) (fun j v hj => by rw [Nat.zero_add]; exact hj)) rfl (fun h => (by cases h))) (rfl) (by intro u hu; simp at hu; subst hu; rfl) (by omega) (by omega) rfl ?_
      intro v' ch' ho'
      refine LW.nil ?_
      refine AW.back (fun _ s => Held.of s (Sub.one (by repeat (first | exact Take.head _ _ | apply Take.tail)))) ?_
      refine AW.takes [11, 12] 0 (by kernel_rfl) (by kernel_rfl) rfl (by repeat (first | exact PO.body | refine PO.then_ ?_ | refine PO.block ?_ | refine PO.noGoto ?_)) (fun _ s => Held.of s (Sub.one (by repeat (first | exact Take.head _ _ | apply Take.tail)))) ?_
      refine TW.take rfl (Yl.assign rfl) rfl ?_
      refine TW.take rfl (Yl.assign rfl) rfl ?_
      refine TW.nil ?_
      refine AW.done (by kernel_rfl) ?_
      refine NW.block ?_
      refine NW.meet ((r, v', ch')) ?j1 ?e1 ?h1
      case j1 => exact ⟨⟨q ++ [(p, s)], by rw [hq]; simp [ats], by simpa using ho'⟩, Nat.lt_succ_self _⟩
      case e1 => repeat (first | exact Env.Le.nil _ | refine Env.Le.cons rfl ?_)
      case h1 => repeat (first | exact Sub.heap_nil _ | exact Sub.refl _ | refine Sub.heap_cons (Take.none _) ?_ | refine Sub.heap_cons (by repeat (first | exact Take.head _ _ | apply Take.tail)) ?_)
end
end Go.Proofs.YtemdebmfdhamgaaFmt
