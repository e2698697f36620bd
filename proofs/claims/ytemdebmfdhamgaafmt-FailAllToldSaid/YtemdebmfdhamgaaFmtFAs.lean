/-
  errors.As at a *api.Errno over a chain of both kinds: around an error number, around a plain error.
-/
import Derived.Test.YtemdebmfdhamgaaFmtFChain
namespace Go.Proofs.YtemdebmfdhamgaaFmt
open Go.RowKit Go.Extern
namespace FactsFAs
theorem concrete36 : Tryf.prog.concrete 36 = true := by kernel_rfl
theorem fname13 : (Tryf.f13.name == "runtime.NumGoroutine") = false := by kernel_rfl
theorem fname32 : (Tryf.f32.name == "runtime.NumGoroutine") = false := by kernel_rfl
theorem one24 : oneB Tryf.prog 24 = true := by kernel_rfl
theorem one62 : oneB Tryf.prog 62 = true := by kernel_rfl
theorem szt69 : (Tryf.prog.info? 69).map (·.size) = some 3 := by kernel_rfl
theorem zero24 : (Tryf.prog.info? 24).bind (·.zero) = some (.int .i64 0) := by kernel_rfl
theorem zero69 : (Tryf.prog.info? 69).bind (·.zero) = some (.agg #[.pointer none, .pointer none, .int .u64 0]) := by kernel_rfl
end FactsFAs
section
variable (W : World) (B : Nat)
theorem c_as (l : List Lk) (c : Int) (t a : Nat) (old : Value) :
    Spec Tryf.prog W B 32 [cV l (eno c), .iface 36 (.pointer (some ⟨t, 0, none⟩)), rval 36 a 150, rty 24]
      ([cr t 24 [old]] ++ ([cr a 36 [.pointer (some ⟨t, 0, none⟩)]] ++ cR l (eno c)))
      (fun r post => r = .bool true ∧ post = [cr t 24 [.int .i64 c]] ++ cR l (eno c)) := by
  refine Spec.enter ([[cr t 24 [old]], [cr a 36 [.pointer (some ⟨t, 0, none⟩)]], cR l (eno c)]) Tryf.func32 rfl Tryf.ntmps32 rfl (by first | rfl | simp) (fun w0 => ?_)
  refine CW.seq ?_
  refine CW.region ?_
  refine LW.box rfl rfl ?_
  intro bb6
  refine LW.assign rfl rfl ?_
  refine LW.nil ?_
  refine NW.then_ ?_
  refine CW.block ?_
  refine CW.loop (fun r : List Lk => [(0, cV r (eno c)), (1, .iface 36 (.pointer (some ⟨t, 0, none⟩))), (3, rty 24), (6, .pointer (some ⟨bb6, 0, none⟩))]) (fun _ => [[cr bb6 69 [hd 36, .pointer (some ⟨a, 0, none⟩), .int .u64 150]], [cr t 24 [old]], [cr a 36 [.pointer (some ⟨t, 0, none⟩)]], cR l (eno c)]) (fun r => ∃ q, l = q ++ r) List.length l ?st1_j ?st1_e ?st1_h ?st1_r
  case st1_j => exact ⟨[], rfl⟩
  case st1_e => repeat (first | exact Env.Le.nil _ | refine Env.Le.cons rfl ?_)
  case st1_h => repeat (first | exact Sub.heap_nil _ | exact Sub.refl _ | refine Sub.heap_cons (Take.none _) ?_ | refine Sub.heap_cons (by repeat (first | exact Take.head _ _ | apply Take.tail)) ?_)
  case st1_r =>
    rintro r ⟨q, hq⟩
    refine CW.block ?_
    refine CW.seq ?_
    refine CW.seq ?_
    refine CW.region ?_
    rcases r with _ | ⟨⟨lb, p, s⟩, r⟩
    · refine LW.move rfl rfl ?_
      refine LW.ext (args := [eno c]) (rty 24) xTypeOf ⟨rfl, trivial⟩ (fun w _ => typeOfE w c) rfl ?_
      refine LW.move rfl rfl ?_
      refine LW.invExt (args := [rty 24]) (.bool true) rfl (mAss _) xAss ⟨rfl, trivial⟩ (fun w _ => assE w) rfl ?_
      refine LW.nil ?_
      refine NW.then_ ?_
      refine CW.cond_true rfl ?_
      refine CW.seq ?_
      refine CW.region ?_
      refine LW.loadAgg ([hd 36, .pointer (some ⟨a, 0, none⟩), .int .u64 150]) rfl (by repeat (first | exact Take.head _ _ | apply Take.tail)) (by intro j v hj; rw [Nat.zero_add]; exact hj) Tryf.underlying69 rfl (by rw [FactsFAs.szt69]; exact congrArg some (Eq.symm (rfl))) rfl ?_
      refine LW.ext (args := [rval 36 a 150]) (rval 24 t 386) xVElem ⟨rfl, trivial⟩ (fun w s => elemVP w a t (s.cell (by repeat (first | exact Take.head _ _ | apply Take.tail)) rfl)) rfl ?_
      refine LW.move rfl rfl ?_
      refine LW.extAlloc (args := [eno c]) (fun b => rval 24 b 130) 24 [.int .i64 c] xValueOf ⟨rfl, trivial⟩ (fun w _ => valueOfE w c) rfl (fun b23 => ?_)
      refine LW.extSet (args := [rval 24 t 386, rval 24 b23 130]) (.tuple #[]) ([cr t 24 [.int .i64 c]] :: [cr b23 24 [.int .i64 c]] :: [cr bb6 69 [hd 36, .pointer (some ⟨a, 0, none⟩), .int .u64 150]] :: [cr a 36 [.pointer (some ⟨t, 0, none⟩)]] :: [cR l (eno c)]) xSet ⟨rfl, rfl, trivial⟩ (fun w s => ⟨_, setE w t b23 c old (s.cell (by repeat (first | exact Take.head _ _ | apply Take.tail)) rfl) (s.cell (by repeat (first | exact Take.head _ _ | apply Take.tail)) rfl) (frozen_of_row w t 0 _ 24 (s.row (r := cr t 24 [old]) (by repeat (first | exact Take.head _ _ | apply Take.tail)))), s.setCell (b := t) (i := 0) (t := 24) (l := [old]) (v := .int .i64 c) (by repeat (first | exact Take.head _ _ | apply Take.tail))⟩) rfl ?_
      refine LW.nil ?_
      refine NW.then_ ?_
      refine CW.seq ?_
      refine CW.region ?_
      refine LW.assign rfl rfl ?_
      refine LW.nil ?_
      refine NW.then_ ?_
      refine CW.ret ?_
      refine NW.then_ret ?_
      refine NW.block_ret ?_
      refine NW.then_ret ?_
      refine NW.block_ret ?_
      refine NW.ret1 rfl rfl ⟨_, ⟨rfl, rfl⟩, ?_⟩
      exact Sub.take (p := [_]) (by repeat (first | exact Take.head _ _ | apply Take.tail)) (Sub.one (by repeat (first | exact Take.head _ _ | apply Take.tail)))
    · refine LW.move rfl rfl ?_
      refine LW.ext (args := [.iface (lkT lb) (.pointer (some ⟨p, 0, none⟩))]) (rty (lkT lb)) xTypeOf ⟨rfl, trivial⟩ (fun w _ => typeOfL lb _ w) rfl ?_
      refine LW.move rfl rfl ?_
      refine LW.invExt (args := [rty 24]) (.bool false) rfl (mAss _) xAss ⟨rfl, trivial⟩ (fun w _ => assL lb w) rfl ?_
      refine LW.nil ?_
      refine NW.then_ ?_
      refine CW.cond_false rfl ?_
      refine CW.skip ?_
      refine NW.then_ ?_
      refine CW.seq ?_
      refine CW.seq ?_
      refine CW.region ?_
      refine LW.move rfl rfl ?_
      refine LW.tassert rfl (fun w => noAsL lb _ _ w) rfl ?_
      refine LW.move rfl rfl ?_
      refine LW.extract rfl rfl rfl ?_
      refine LW.extract rfl rfl rfl ?_
      refine LW.assign rfl rfl ?_
      refine LW.assign rfl rfl ?_
      refine LW.nil ?_
      refine NW.then_ ?_
      refine CW.seq ?_
      refine CW.region ?_
      refine LW.move rfl rfl ?_
      refine LW.move rfl rfl ?_
      refine LW.off 31 rfl rfl rfl rfl ?_
      refine LW.off 31 rfl rfl rfl rfl ?_
      refine LW.off 31 rfl rfl rfl rfl ?_
      refine LW.pickF rfl rfl rfl ?_
      refine LW.nil ?_
      refine NW.then_ ?_
      refine CW.cond_false rfl ?_
      refine CW.skip ?_
      refine NW.then_ ?_
      refine CW.seq ?_
      refine CW.region ?_
      refine LW.move rfl rfl ?_
      refine LW.nil ?_
      refine NW.then_ ?_
      refine CW.block ?_
      refine CW.seq ?_
      refine CW.region ?_
      refine LW.tassert rfl (fun w => unwL lb _ _ w) rfl ?_
      refine LW.extract rfl rfl rfl ?_
      refine LW.extract rfl rfl rfl ?_
      refine LW.nil ?_
      refine NW.then_ ?_
      refine CW.cond_true rfl ?_
      refine CW.seq ?_
      refine CW.region ?_
      refine LW.assign rfl rfl ?_
      refine LW.nil ?_
      refine NW.then_ ?_
      refine CW.seq ?_
      refine CW.region ?_
      refine LW.move rfl rfl ?_
      obtain ⟨fn9, co9, hf9, hb9, hn9⟩ := lk_fn lb
      refine LW.invCall (args := []) rfl (mUnwrapL lb _) (lk_Unwrap W B lb p s (cV r (eno c)) (cR l (eno c)) (by rw [hq]; exact cR_mem q lb p s r (eno c))) hf9 hb9 hn9 trivial (by repeat (first | exact Take.head _ _ | apply Take.tail)) rfl ?_
      rintro _ _ ⟨rfl, rfl⟩
      refine LW.assign rfl rfl ?_
      refine LW.nil ?_
      refine NW.then_ ?_
      refine CW.seq ?_
      refine CW.region ?_
      refine LW.move rfl rfl ?_
      refine LW.ifaceNil false rfl Tryf.underlying26 (.inr ⟨cV_isE r (eno_isE c), rfl⟩) rfl ?_
      refine LW.nil ?_
      refine NW.then_ ?_
      refine CW.cond_false rfl ?_
      refine CW.skip ?_
      refine NW.block ?_
      refine NW.block ?_
      refine NW.meet (r) ?j1 ?e1 ?h1
      case j1 => exact ⟨⟨q ++ [(lb, p, s)], by rw [hq]; simp⟩, Nat.lt_succ_self _⟩
      case e1 => repeat (first | exact Env.Le.nil _ | refine Env.Le.cons rfl ?_)
      case h1 => repeat (first | exact Sub.heap_nil _ | exact Sub.refl _ | refine Sub.heap_cons (Take.none _) ?_ | refine Sub.heap_cons (by repeat (first | exact Take.head _ _ | apply Take.tail)) ?_)
theorem c_as_pl (l : List Lk) (z : Nat) (t a : Nat) (old : Value) :
    Spec Tryf.prog W B 32 [cV l (plV z), .iface 36 (.pointer (some ⟨t, 0, none⟩)), rval 36 a 150, rty 24]
      ([cr t 24 [old]] ++ ([cr a 36 [.pointer (some ⟨t, 0, none⟩)]] ++ cR l (plV z)))
      (fun r post => r = .bool false ∧ post = [cr t 24 [old]] ++ cR l (plV z)) := by
  refine Spec.enter ([[cr t 24 [old]], [cr a 36 [.pointer (some ⟨t, 0, none⟩)]], cR l (plV z)]) Tryf.func32 rfl Tryf.ntmps32 rfl (by first | rfl | simp) (fun w0 => ?_)
  refine CW.seq ?_
  refine CW.region ?_
  refine LW.box rfl rfl ?_
  intro bb6
  refine LW.assign rfl rfl ?_
  refine LW.nil ?_
  refine NW.then_ ?_
  refine CW.block ?_
  refine CW.loop (fun r : List Lk => [(0, cV r (plV z)), (1, .iface 36 (.pointer (some ⟨t, 0, none⟩))), (3, rty 24), (6, .pointer (some ⟨bb6, 0, none⟩))]) (fun _ => [[cr bb6 69 [hd 36, .pointer (some ⟨a, 0, none⟩), .int .u64 150]], [cr t 24 [old]], [cr a 36 [.pointer (some ⟨t, 0, none⟩)]], cR l (plV z)]) (fun r => ∃ q, l = q ++ r) List.length l ?st1_j ?st1_e ?st1_h ?st1_r
  case st1_j => exact ⟨[], rfl⟩
  case st1_e => repeat (first | exact Env.Le.nil _ | refine Env.Le.cons rfl ?_)
  case st1_h => repeat (first | exact Sub.heap_nil _ | exact Sub.refl _ | refine Sub.heap_cons (Take.none _) ?_ | refine Sub.heap_cons (by repeat (first | exact Take.head _ _ | apply Take.tail)) ?_)
  case st1_r =>
    rintro r ⟨q, hq⟩
    refine CW.block ?_
    refine CW.seq ?_
    refine CW.seq ?_
    refine CW.region ?_
    rcases r with _ | ⟨⟨lb, p, s⟩, r⟩
    · refine LW.move rfl rfl ?_
      refine LW.ext (args := [plV z]) (rty 76) xTypeOf ⟨rfl, trivial⟩ (fun w _ => typeOfP z w) rfl ?_
      refine LW.move rfl rfl ?_
      refine LW.invExt (args := [rty 24]) (.bool false) rfl (mAss _) xAss ⟨rfl, trivial⟩ (fun w _ => assP w) rfl ?_
      refine LW.nil ?_
      refine NW.then_ ?_
      refine CW.cond_false rfl ?_
      refine CW.skip ?_
      refine NW.then_ ?_
      refine CW.seq ?_
      refine CW.seq ?_
      refine CW.region ?_
      refine LW.move rfl rfl ?_
      refine LW.tassert rfl (fun w => noAsP _ _ w) rfl ?_
      refine LW.move rfl rfl ?_
      refine LW.extract rfl rfl rfl ?_
      refine LW.extract rfl rfl rfl ?_
      refine LW.assign rfl rfl ?_
      refine LW.assign rfl rfl ?_
      refine LW.nil ?_
      refine NW.then_ ?_
      refine CW.seq ?_
      refine CW.region ?_
      refine LW.move rfl rfl ?_
      refine LW.move rfl rfl ?_
      refine LW.off 31 rfl rfl rfl rfl ?_
      refine LW.off 31 rfl rfl rfl rfl ?_
      refine LW.off 31 rfl rfl rfl rfl ?_
      refine LW.pickF rfl rfl rfl ?_
      refine LW.nil ?_
      refine NW.then_ ?_
      refine CW.cond_false rfl ?_
      refine CW.skip ?_
      refine NW.then_ ?_
      refine CW.seq ?_
      refine CW.region ?_
      refine LW.move rfl rfl ?_
      refine LW.nil ?_
      refine NW.then_ ?_
      refine CW.block ?_
      refine CW.seq ?_
      refine CW.region ?_
      refine LW.tassert rfl (fun w => noUnwP _ _ w) rfl ?_
      refine LW.extract rfl rfl rfl ?_
      refine LW.extract rfl rfl rfl ?_
      refine LW.nil ?_
      refine NW.then_ ?_
      refine CW.cond_false rfl ?_
      refine CW.seq ?_
      refine CW.region ?_
      refine LW.tassert rfl (fun w => noUnwsP _ _ w) rfl ?_
      refine LW.extract rfl rfl rfl ?_
      refine LW.extract rfl rfl rfl ?_
      refine LW.nil ?_
      refine NW.then_ ?_
      refine CW.cond_false rfl ?_
      refine CW.seq ?_
      refine CW.region ?_
      refine LW.assign rfl rfl ?_
      refine LW.nil ?_
      refine NW.then_ ?_
      refine CW.seq ?_
      refine CW.region ?_
      refine LW.assign rfl rfl ?_
      refine LW.nil ?_
      refine NW.then_ ?_
      refine CW.ret ?_
      refine NW.block_ret ?_
      refine NW.block_ret ?_
      refine NW.then_ret ?_
      refine NW.block_ret ?_
      refine NW.ret1 rfl rfl ⟨_, ⟨rfl, rfl⟩, ?_⟩
      exact Sub.take (p := [_]) (by repeat (first | exact Take.head _ _ | apply Take.tail)) (Sub.one (by repeat (first | exact Take.head _ _ | apply Take.tail)))
    · refine LW.move rfl rfl ?_
      refine LW.ext (args := [.iface (lkT lb) (.pointer (some ⟨p, 0, none⟩))]) (rty (lkT lb)) xTypeOf ⟨rfl, trivial⟩ (fun w _ => typeOfL lb _ w) rfl ?_
      refine LW.move rfl rfl ?_
      refine LW.invExt (args := [rty 24]) (.bool false) rfl (mAss _) xAss ⟨rfl, trivial⟩ (fun w _ => assL lb w) rfl ?_
      refine LW.nil ?_
      refine NW.then_ ?_
      refine CW.cond_false rfl ?_
      refine CW.skip ?_
      refine NW.then_ ?_
      refine CW.seq ?_
      refine CW.seq ?_
      refine CW.region ?_
      refine LW.move rfl rfl ?_
      refine LW.tassert rfl (fun w => noAsL lb _ _ w) rfl ?_
      refine LW.move rfl rfl ?_
      refine LW.extract rfl rfl rfl ?_
      refine LW.extract rfl rfl rfl ?_
      refine LW.assign rfl rfl ?_
      refine LW.assign rfl rfl ?_
      refine LW.nil ?_
      refine NW.then_ ?_
      refine CW.seq ?_
      refine CW.region ?_
      refine LW.move rfl rfl ?_
      refine LW.move rfl rfl ?_
      refine LW.off 31 rfl rfl rfl rfl ?_
      refine LW.off 31 rfl rfl rfl rfl ?_
      refine LW.off 31 rfl rfl rfl rfl ?_
      refine LW.pickF rfl rfl rfl ?_
      refine LW.nil ?_
      refine NW.then_ ?_
      refine CW.cond_false rfl ?_
      refine CW.skip ?_
      refine NW.then_ ?_
      refine CW.seq ?_
      refine CW.region ?_
      refine LW.move rfl rfl ?_
      refine LW.nil ?_
      refine NW.then_ ?_
      refine CW.block ?_
      refine CW.seq ?_
      refine CW.region ?_
      refine LW.tassert rfl (fun w => unwL lb _ _ w) rfl ?_
      refine LW.extract rfl rfl rfl ?_
      refine LW.extract rfl rfl rfl ?_
      refine LW.nil ?_
      refine NW.then_ ?_
      refine CW.cond_true rfl ?_
      refine CW.seq ?_
      refine CW.region ?_
      refine LW.assign rfl rfl ?_
      refine LW.nil ?_
      refine NW.then_ ?_
      refine CW.seq ?_
      refine CW.region ?_
      refine LW.move rfl rfl ?_
      obtain ⟨fn9, co9, hf9, hb9, hn9⟩ := lk_fn lb
      refine LW.invCall (args := []) rfl (mUnwrapL lb _) (lk_Unwrap W B lb p s (cV r (plV z)) (cR l (plV z)) (by rw [hq]; exact cR_mem q lb p s r (plV z))) hf9 hb9 hn9 trivial (by repeat (first | exact Take.head _ _ | apply Take.tail)) rfl ?_
      rintro _ _ ⟨rfl, rfl⟩
      refine LW.assign rfl rfl ?_
      refine LW.nil ?_
      refine NW.then_ ?_
      refine CW.seq ?_
      refine CW.region ?_
      refine LW.move rfl rfl ?_
      refine LW.ifaceNil false rfl Tryf.underlying26 (.inr ⟨cV_isE r (plV_isE z), rfl⟩) rfl ?_
      refine LW.nil ?_
      refine NW.then_ ?_
      refine CW.cond_false rfl ?_
      refine CW.skip ?_
      refine NW.block ?_
      refine NW.block ?_
      refine NW.meet (r) ?j1 ?e1 ?h1
      case j1 => exact ⟨⟨q ++ [(lb, p, s)], by rw [hq]; simp⟩, Nat.lt_succ_self _⟩
      case e1 => repeat (first | exact Env.Le.nil _ | refine Env.Le.cons rfl ?_)
      case h1 => repeat (first | exact Sub.heap_nil _ | exact Sub.refl _ | refine Sub.heap_cons (Take.none _) ?_ | refine Sub.heap_cons (by repeat (first | exact Take.head _ _ | apply Take.tail)) ?_)

theorem c_As (x : Value) (hx : IsE x) (ok : Bool) (l : List Lk) (t : Nat) (old new : Value) (h0 : 0 < B) (hg : W.cell? ⟨0, 0, none⟩ = some (rty 26))
    (has : ∀ a, Spec Tryf.prog W B 32 [cV l x, .iface 36 (.pointer (some ⟨t, 0, none⟩)), rval 36 a 150, rty 24]
      ([cr t 24 [old]] ++ ([cr a 36 [.pointer (some ⟨t, 0, none⟩)]] ++ cR l x)) (fun r post => r = .bool ok ∧ post = [cr t 24 [new]] ++ cR l x)) :
    Spec Tryf.prog W B 13 [cV l x, .iface 36 (.pointer (some ⟨t, 0, none⟩))] ([cr t 24 [old]] ++ cR l x)
      (fun r post => r = .bool ok ∧ post = [cr t 24 [new]] ++ cR l x) := by
  refine Spec.enter ([[cr t 24 [old]], cR l x]) Tryf.func13 rfl Tryf.ntmps13 rfl (by first | rfl | simp) (fun w0 => ?_)
  refine CW.seq ?_
  refine CW.region ?_
  refine LW.assign rfl rfl ?_
  refine LW.nil ?_
  refine NW.then_ ?_
  refine CW.seq ?_
  refine CW.seq ?_
  refine CW.region ?_
  refine LW.move rfl rfl ?_
  refine LW.ifaceNil false rfl Tryf.underlying26 (.inr ⟨cV_isE l hx, rfl⟩) rfl ?_
  refine LW.nil ?_
  refine NW.then_ ?_
  refine CW.cond_false rfl ?_
  refine CW.skip ?_
  refine NW.then_ ?_
  refine CW.seq ?_
  refine CW.seq ?_
  refine CW.region ?_
  refine LW.move rfl rfl ?_
  refine LW.ifaceNil _ rfl Tryf.underlying20 (.inr ⟨⟨_, _, rfl⟩, rfl⟩) rfl ?_
  refine LW.nil ?_
  refine NW.then_ ?_
  refine CW.cond_false rfl ?_
  refine CW.skip ?_
  refine NW.then_ ?_
  refine CW.seq ?_
  refine CW.region ?_
  refine LW.move rfl rfl ?_
  refine LW.extAlloc (args := [.iface 36 (.pointer (some ⟨t, 0, none⟩))]) (fun b => rval 36 b 150) 36 [.pointer (some ⟨t, 0, none⟩)] xValueOf ⟨rfl, trivial⟩ (fun w _ => valueOfP w t) rfl (fun b14 => ?_)
  refine LW.alloc FactsFAs.zero69 rfl ?_
  intro ba5
  refine LW.storeAgg ([hd 36, .pointer (some ⟨b14, 0, none⟩), .int .u64 150]) rfl rfl (by repeat (first | exact Take.head _ _ | apply Take.tail)) (by rw [FactsFAs.szt69]; exact congrArg some (Eq.symm (rfl))) (by exact Nat.le_refl 3) (rvalCells_one _ _ _) (rfl) ?_
  refine LW.nil ?_
  refine NW.then_ ?_
  refine CW.seq ?_
  refine CW.region ?_
  refine LW.loadAgg ([hd 36, .pointer (some ⟨b14, 0, none⟩), .int .u64 150]) rfl (by repeat (first | exact Take.head _ _ | apply Take.tail)) (by intro j v hj; rw [Nat.zero_add]; exact hj) Tryf.underlying69 rfl (by rw [FactsFAs.szt69]; exact congrArg some (Eq.symm (rfl))) rfl ?_
  refine LW.ext (args := [rval 36 b14 150]) (rty 36) xType ⟨rfl, trivial⟩ (fun w _ => typeP w b14) rfl ?_
  refine LW.assign rfl rfl ?_
  refine LW.nil ?_
  refine NW.then_ ?_
  refine CW.seq ?_
  refine CW.seq ?_
  refine CW.region ?_
  refine LW.move rfl rfl ?_
  refine LW.invExt (args := []) (.int .u8 22) rfl (mKind _) xKind trivial (fun w _ => kindP w) rfl ?_
  refine LW.neq false rfl rfl (rfl) rfl ?_
  refine LW.move rfl rfl ?_
  refine LW.on 20 rfl rfl ?_
  refine LW.loadAgg ([hd 36, .pointer (some ⟨b14, 0, none⟩), .int .u64 150]) rfl (by repeat (first | exact Take.head _ _ | apply Take.tail)) (by intro j v hj; rw [Nat.zero_add]; exact hj) Tryf.underlying69 rfl (by rw [FactsFAs.szt69]; exact congrArg some (Eq.symm (rfl))) rfl ?_
  refine LW.on 20 rfl rfl ?_
  refine LW.ext (args := [rval 36 b14 150]) (.bool false) xIsNil ⟨rfl, trivial⟩ (fun w s => isNilP w b14 t (s.cell (by repeat (first | exact Take.head _ _ | apply Take.tail)) rfl)) rfl ?_
  refine LW.pickF rfl rfl rfl ?_
  refine LW.nil ?_
  refine NW.then_ ?_
  refine CW.cond_false rfl ?_
  refine CW.skip ?_
  refine NW.then_ ?_
  refine CW.seq ?_
  refine CW.region ?_
  refine LW.move rfl rfl ?_
  refine LW.invExt (args := []) (rty 24) rfl (mElem _) xElem trivial (fun w _ => elemP w) rfl ?_
  refine LW.assign rfl rfl ?_
  refine LW.nil ?_
  refine NW.then_ ?_
  refine CW.seq ?_
  refine CW.seq ?_
  refine CW.region ?_
  refine LW.move rfl rfl ?_
  refine LW.invExt (args := []) (.int .u8 2) rfl (mKind _) xKind trivial (fun w _ => kindE w) rfl ?_
  refine LW.neq true rfl rfl (rfl) rfl ?_
  refine LW.move rfl rfl ?_
  refine LW.on 30 rfl rfl ?_
  refine LW.move rfl rfl ?_
  refine LW.on 30 rfl rfl ?_
  refine LW.loadOld rfl (h0) (hg) FactsFAs.one62 rfl ?_
  refine LW.on 30 rfl rfl ?_
  refine LW.invExt (args := [rty 26]) (.bool true) rfl (mImpl _) xImpl ⟨rfl, trivial⟩ (fun w _ => implE w) rfl ?_
  refine LW.on 30 rfl rfl ?_
  refine LW.not _ rfl rfl rfl ?_
  refine LW.pickT rfl rfl rfl ?_
  refine LW.nil ?_
  refine NW.then_ ?_
  refine CW.cond_false rfl ?_
  refine CW.skip ?_
  refine NW.then_ ?_
  refine CW.seq ?_
  refine CW.region ?_
  refine LW.move rfl rfl ?_
  refine LW.move rfl rfl ?_
  refine LW.loadAgg ([hd 36, .pointer (some ⟨b14, 0, none⟩), .int .u64 150]) rfl (by repeat (first | exact Take.head _ _ | apply Take.tail)) (by intro j v hj; rw [Nat.zero_add]; exact hj) Tryf.underlying69 rfl (by rw [FactsFAs.szt69]; exact congrArg some (Eq.symm (rfl))) rfl ?_
  refine LW.move rfl rfl ?_
  refine LW.call (has b14) Tryf.func32 rfl FactsFAs.fname32 ⟨rfl, rfl, rfl, rfl, trivial⟩ (Take.both (by repeat (first | exact Take.head _ _ | apply Take.tail)) (Take.both (by repeat (first | exact Take.head _ _ | apply Take.tail)) (by repeat (first | exact Take.head _ _ | apply Take.tail)))) rfl ?_
  rintro _ _ ⟨rfl, rfl⟩
  refine LW.assign rfl rfl ?_
  refine LW.nil ?_
  refine NW.then_ ?_
  refine CW.ret ?_
  refine NW.ret1 rfl rfl ⟨_, ⟨rfl, rfl⟩, ?_⟩
  exact Sub.one (by repeat (first | exact Take.head _ _ | apply Take.tail))
theorem c_Code (l : List Lk) (c : Int) (h0 : 0 < B) (hg : W.cell? ⟨0, 0, none⟩ = some (rty 26)) :
    Spec Tryf.prog W B 9 [cV l (eno c)] (cR l (eno c)) (fun r post => r = .int .i64 c ∧ post = cR l (eno c)) := by
  refine Spec.enter ([cR l (eno c)]) Tryf.func9 rfl Tryf.ntmps9 rfl (by first | rfl | simp) (fun w0 => ?_)
  refine CW.seq ?_
  refine CW.region ?_
  refine LW.assign rfl rfl ?_
  refine LW.nil ?_
  refine NW.then_ ?_
  refine CW.seq ?_
  refine CW.seq ?_
  refine CW.region ?_
  refine LW.move rfl rfl ?_
  refine LW.ifaceNil false rfl Tryf.underlying26 (.inr ⟨cV_isE l (eno_isE c), rfl⟩) rfl ?_
  refine LW.nil ?_
  refine NW.then_ ?_
  refine CW.cond_false rfl ?_
  refine CW.skip ?_
  refine NW.then_ ?_
  refine CW.seq ?_
  refine CW.region ?_
  refine LW.alloc FactsFAs.zero24 rfl ?_
  intro ba3
  refine LW.nil ?_
  refine NW.then_ ?_
  refine CW.seq ?_
  refine CW.seq ?_
  refine CW.region ?_
  refine LW.move rfl rfl ?_
  refine LW.mkIface rfl FactsFAs.concrete36 rfl ?_
  refine LW.call (c_As W B (eno c) (eno_isE c) true l ba3 (.int .i64 0) (.int .i64 c) h0 hg (fun a => c_as W B l c ba3 a _)) Tryf.func13 rfl FactsFAs.fname13 ⟨rfl, rfl, trivial⟩ (Take.both (by repeat (first | exact Take.head _ _ | apply Take.tail)) (by repeat (first | exact Take.head _ _ | apply Take.tail))) rfl ?_
  rintro _ _ ⟨rfl, rfl⟩; refine LW.split2 ?_
  refine LW.not (false) rfl (rfl) rfl ?_
  refine LW.nil ?_
  refine NW.then_ ?_
  refine CW.cond_false rfl ?_
  refine CW.skip ?_
  refine NW.then_ ?_
  refine CW.seq ?_
  refine CW.region ?_
  refine LW.load rfl (by repeat (first | exact Take.head _ _ | apply Take.tail)) rfl FactsFAs.one24 rfl ?_
  refine LW.assign rfl rfl ?_
  refine LW.nil ?_
  refine NW.then_ ?_
  refine CW.ret ?_
  refine NW.ret1 rfl rfl ⟨_, ⟨rfl, rfl⟩, ?_⟩
  exact Sub.one (by repeat (first | exact Take.head _ _ | apply Take.tail))
theorem c_Code_pl (l : List Lk) (z : Nat) (h0 : 0 < B) (hg : W.cell? ⟨0, 0, none⟩ = some (rty 26)) :
    Spec Tryf.prog W B 9 [cV l (plV z)] (cR l (plV z)) (fun r post => r = .int .i64 1 ∧ post = cR l (plV z)) := by
  refine Spec.enter ([cR l (plV z)]) Tryf.func9 rfl Tryf.ntmps9 rfl (by first | rfl | simp) (fun w0 => ?_)
  refine CW.seq ?_
  refine CW.region ?_
  refine LW.assign rfl rfl ?_
  refine LW.nil ?_
  refine NW.then_ ?_
  refine CW.seq ?_
  refine CW.seq ?_
  refine CW.region ?_
  refine LW.move rfl rfl ?_
  refine LW.ifaceNil false rfl Tryf.underlying26 (.inr ⟨cV_isE l (plV_isE z), rfl⟩) rfl ?_
  refine LW.nil ?_
  refine NW.then_ ?_
  refine CW.cond_false rfl ?_
  refine CW.skip ?_
  refine NW.then_ ?_
  refine CW.seq ?_
  refine CW.region ?_
  refine LW.alloc FactsFAs.zero24 rfl ?_
  intro ba3
  refine LW.nil ?_
  refine NW.then_ ?_
  refine CW.seq ?_
  refine CW.seq ?_
  refine CW.region ?_
  refine LW.move rfl rfl ?_
  refine LW.mkIface rfl FactsFAs.concrete36 rfl ?_
  refine LW.call (c_As W B (plV z) (plV_isE z) false l ba3 (.int .i64 0) (.int .i64 0) h0 hg (fun a => c_as_pl W B l z ba3 a _)) Tryf.func13 rfl FactsFAs.fname13 ⟨rfl, rfl, trivial⟩ (Take.both (by repeat (first | exact Take.head _ _ | apply Take.tail)) (by repeat (first | exact Take.head _ _ | apply Take.tail))) rfl ?_
  rintro _ _ ⟨rfl, rfl⟩; refine LW.split2 ?_
  refine LW.not (true) rfl (rfl) rfl ?_
  refine LW.nil ?_
  refine NW.then_ ?_
  refine CW.cond_true rfl ?_
  refine CW.seq ?_
  refine CW.region ?_
  refine LW.assign rfl rfl ?_
  refine LW.nil ?_
  refine NW.then_ ?_
  refine CW.ret ?_
  refine NW.then_ret ?_
  refine NW.ret1 rfl rfl ⟨_, ⟨rfl, rfl⟩, ?_⟩
  exact Sub.one (by repeat (first | exact Take.head _ _ | apply Take.tail))
end
end Go.Proofs.YtemdebmfdhamgaaFmt
