/-
  errors.As at a *api.Errno and errors.Is at an api.Errno, over a chain of *fail.at around an error number: their contracts.
-/
import Derived.Test.YtemdebmfdhamgaaFmtErrF
namespace Go.Proofs.YtemdebmfdhamgaaFmt
open Go.RowKit Go.Extern
namespace FactsFail1
theorem fa58_1 (b o : Nat) (w : World) : (Instr.fieldAt 58 (.pointer (some ⟨b, o, none⟩)) 1).run Tryf.prog w = .ok (.pointer (some ⟨b, o + 1, none⟩)) w := by kernel_rfl
theorem fname32 : (Tryf.f32.name == "runtime.NumGoroutine") = false := by kernel_rfl
theorem fname61 : (Tryf.f61.name == "runtime.NumGoroutine") = false := by kernel_rfl
theorem one26 : oneB Tryf.prog 26 = true := by kernel_rfl
theorem one62 : oneB Tryf.prog 62 = true := by kernel_rfl
theorem szt69 : (Tryf.prog.info? 69).map (·.size) = some 3 := by kernel_rfl
theorem zero69 : (Tryf.prog.info? 69).bind (·.zero) = some (.agg #[.pointer none, .pointer none, .int .u64 0]) := by kernel_rfl
end FactsFail1
section
variable (W : World) (B : Nat)

theorem rvalCells_one (t b k : Nat) : ∀ v ∈ [hd t, .pointer (some ⟨b, 0, none⟩), .int .u64 (k : Int)], v.oneCell' = true := by
  intro v hv
  simp only [hd, List.mem_cons, List.not_mem_nil, or_false] at hv
  rcases hv with rfl | rfl | rfl <;> rfl
theorem at_Unwrap (p : Nat) (s : List UInt8) (v : Value) (rows : List Row) (hm : cr p 58 [strV s, v] ∈ rows) :
    Spec Tryf.prog W B 61 [.pointer (some ⟨p, 0, none⟩)] rows (fun r post => r = v ∧ post = rows) := by
  refine Spec.enter ([rows]) Tryf.func61 rfl Tryf.ntmps61 rfl (by first | rfl | simp) (fun w0 => ?_)
  refine CW.seq ?_
  refine CW.region ?_
  refine LW.assign rfl rfl ?_
  refine LW.nil ?_
  refine NW.then_ ?_
  refine CW.seq ?_
  refine CW.region ?_
  refine LW.move rfl rfl ?_
  refine LW.nilPtr rfl rfl ?_
  refine LW.fieldAddr _ rfl (fun _ => FactsFail1.fa58_1 _ _ _) rfl ?_
  refine LW.loadIn rfl (by simpa using hm) rfl FactsFail1.one26 rfl ?_
  refine LW.assign rfl rfl ?_
  refine LW.nil ?_
  refine NW.then_ ?_
  refine CW.ret ?_
  refine NW.ret1 rfl rfl ⟨_, ⟨rfl, rfl⟩, ?_⟩
  exact Sub.one (by repeat (first | exact Take.head _ _ | apply Take.tail))

theorem errors_as (l : List (Nat × List UInt8)) (c : Int) (t a : Nat) (old : Value) :
    Spec Tryf.prog W B 32 [chainV l (eno c), .iface 36 (.pointer (some ⟨t, 0, none⟩)), rval 36 a 150, rty 24]
      ([cr t 24 [old]] ++ ([cr a 36 [.pointer (some ⟨t, 0, none⟩)]] ++ chainR l (eno c)))
      (fun r post => r = .bool true ∧ post = [cr t 24 [.int .i64 c]] ++ chainR l (eno c)) := by
  refine Spec.enter ([[cr t 24 [old]], [cr a 36 [.pointer (some ⟨t, 0, none⟩)]], chainR l (eno c)]) Tryf.func32 rfl Tryf.ntmps32 rfl (by first | rfl | simp) (fun w0 => ?_)
  refine CW.seq ?_
  refine CW.region ?_
  refine LW.box rfl rfl ?_
  intro bb6
  refine LW.assign rfl rfl ?_
  refine LW.nil ?_
  refine NW.then_ ?_
  refine CW.block ?_
  refine CW.loop (fun r : List (Nat × List UInt8) => [(0, chainV r (eno c)), (1, .iface 36 (.pointer (some ⟨t, 0, none⟩))), (3, rty 24), (6, .pointer (some ⟨bb6, 0, none⟩))]) (fun _ => [[cr bb6 69 [hd 36, .pointer (some ⟨a, 0, none⟩), .int .u64 150]], [cr t 24 [old]], [cr a 36 [.pointer (some ⟨t, 0, none⟩)]], chainR l (eno c)]) (fun r => ∃ q, l = q ++ r) List.length l ?st1_j ?st1_e ?st1_h ?st1_r
  case st1_j => exact ⟨[], rfl⟩
  case st1_e => repeat (first | exact Env.Le.nil _ | refine Env.Le.cons rfl ?_)
  case st1_h => repeat (first | exact Sub.heap_nil _ | exact Sub.refl _ | refine Sub.heap_cons (Take.none _) ?_ | refine Sub.heap_cons (by repeat (first | exact Take.head _ _ | apply Take.tail)) ?_)
  case st1_r =>
    rintro r ⟨q, hq⟩
    refine CW.block ?_
    refine CW.seq ?_
    refine CW.seq ?_
    refine CW.region ?_
    rcases r with _ | ⟨⟨p, s⟩, r⟩
    · refine LW.move rfl rfl ?_
      refine LW.ext (args := [eno c]) (rty 24) xTypeOf ⟨rfl, trivial⟩ (fun w _ => typeOfE w c) rfl ?_
      refine LW.move rfl rfl ?_
      refine LW.invExt (args := [rty 24]) (.bool true) rfl (mAss _) xAss ⟨rfl, trivial⟩ (fun w _ => assE w) rfl ?_
      refine LW.nil ?_
      refine NW.then_ ?_
      refine CW.cond_true rfl ?_
      refine CW.seq ?_
      refine CW.region ?_
      refine LW.loadAgg ([hd 36, .pointer (some ⟨a, 0, none⟩), .int .u64 150]) rfl (by repeat (first | exact Take.head _ _ | apply Take.tail)) (by intro j v hj; rw [Nat.zero_add]; exact hj) Tryf.underlying69 rfl (by rw [FactsFail1.szt69]; exact congrArg some (Eq.symm (rfl))) rfl ?_
      refine LW.ext (args := [rval 36 a 150]) (rval 24 t 386) xVElem ⟨rfl, trivial⟩ (fun w s => elemVP w a t (s.cell (by repeat (first | exact Take.head _ _ | apply Take.tail)) rfl)) rfl ?_
      refine LW.move rfl rfl ?_
      refine LW.extAlloc (args := [eno c]) (fun b => rval 24 b 130) 24 [.int .i64 c] xValueOf ⟨rfl, trivial⟩ (fun w _ => valueOfE w c) rfl (fun b23 => ?_)
      refine LW.extSet (args := [rval 24 t 386, rval 24 b23 130]) (.tuple #[]) ([cr t 24 [.int .i64 c]] :: [cr b23 24 [.int .i64 c]] :: [cr bb6 69 [hd 36, .pointer (some ⟨a, 0, none⟩), .int .u64 150]] :: [cr a 36 [.pointer (some ⟨t, 0, none⟩)]] :: [chainR l (eno c)]) xSet ⟨rfl, rfl, trivial⟩ (fun w s => ⟨_, setE w t b23 c old (s.cell (by repeat (first | exact Take.head _ _ | apply Take.tail)) rfl) (s.cell (by repeat (first | exact Take.head _ _ | apply Take.tail)) rfl) (frozen_of_row w t 0 _ 24 (s.row (r := cr t 24 [old]) (by repeat (first | exact Take.head _ _ | apply Take.tail)))), s.setCell (b := t) (i := 0) (t := 24) (l := [old]) (v := .int .i64 c) (by repeat (first | exact Take.head _ _ | apply Take.tail))⟩) rfl ?_
      refine LW.nil ?_
      refine NW.then_ ?_
      refine CW.seq ?_
      refine CW.region ?_
      refine LW.assign rfl rfl ?_
      refine LW.nil ?_
      refine NW.then_ ?_
      refine CW.ret ?_
      refine NW.then_ret ?_
      refine NW.block_ret ?_
      refine NW.then_ret ?_
      refine NW.block_ret ?_
      refine NW.ret1 rfl rfl ⟨_, ⟨rfl, rfl⟩, ?_⟩
      exact Sub.take (p := [_]) (by repeat (first | exact Take.head _ _ | apply Take.tail)) (Sub.one (by repeat (first | exact Take.head _ _ | apply Take.tail)))
    · refine LW.move rfl rfl ?_
      refine LW.ext (args := [.iface 56 (.pointer (some ⟨p, 0, none⟩))]) (rty 56) xTypeOf ⟨rfl, trivial⟩ (fun w _ => typeOfA w _) rfl ?_
      refine LW.move rfl rfl ?_
      refine LW.invExt (args := [rty 24]) (.bool false) rfl (mAss _) xAss ⟨rfl, trivial⟩ (fun w _ => assA w) rfl ?_
      refine LW.nil ?_
      refine NW.then_ ?_
      refine CW.cond_false rfl ?_
      refine CW.skip ?_
      refine NW.then_ ?_
      refine CW.seq ?_
      refine CW.seq ?_
      refine CW.region ?_
      refine LW.move rfl rfl ?_
      refine LW.tassert rfl (fun w => noAsA _ _ w) rfl ?_
      refine LW.move rfl rfl ?_
      refine LW.extract rfl rfl rfl ?_
      refine LW.extract rfl rfl rfl ?_
      refine LW.assign rfl rfl ?_
      refine LW.assign rfl rfl ?_
      refine LW.nil ?_
      refine NW.then_ ?_
      refine CW.seq ?_
      refine CW.region ?_
      refine LW.move rfl rfl ?_
      refine LW.move rfl rfl ?_
      refine LW.off 31 rfl rfl rfl rfl ?_
      refine LW.off 31 rfl rfl rfl rfl ?_
      refine LW.off 31 rfl rfl rfl rfl ?_
      refine LW.pickF rfl rfl rfl ?_
      refine LW.nil ?_
      refine NW.then_ ?_
      refine CW.cond_false rfl ?_
      refine CW.skip ?_
      refine NW.then_ ?_
      refine CW.seq ?_
      refine CW.region ?_
      refine LW.move rfl rfl ?_
      refine LW.nil ?_
      refine NW.then_ ?_
      refine CW.block ?_
      refine CW.seq ?_
      refine CW.region ?_
      refine LW.tassert rfl (fun w => unwA _ _ w) rfl ?_
      refine LW.extract rfl rfl rfl ?_
      refine LW.extract rfl rfl rfl ?_
      refine LW.nil ?_
      refine NW.then_ ?_
      refine CW.cond_true rfl ?_
      refine CW.seq ?_
      refine CW.region ?_
      refine LW.assign rfl rfl ?_
      refine LW.nil ?_
      refine NW.then_ ?_
      refine CW.seq ?_
      refine CW.region ?_
      refine LW.move rfl rfl ?_
      refine LW.invCall (args := []) rfl (mUnwrap _) (at_Unwrap W B p s (chainR r (eno c) |> fun _ => chainV r (eno c)) (chainR l (eno c)) (by rw [hq]; exact chainR_mem q p s r (eno c))) Tryf.func61 rfl FactsFail1.fname61 trivial (by repeat (first | exact Take.head _ _ | apply Take.tail)) rfl ?_
      rintro _ _ ⟨rfl, rfl⟩
      refine LW.assign rfl rfl ?_
      refine LW.nil ?_
      refine NW.then_ ?_
      refine CW.seq ?_
      refine CW.region ?_
      refine LW.move rfl rfl ?_
      refine LW.ifaceNil false rfl Tryf.underlying26 (.inr ⟨chainV_iface r c, rfl⟩) rfl ?_
      refine LW.nil ?_
      refine NW.then_ ?_
      refine CW.cond_false rfl ?_
      refine CW.skip ?_
      refine NW.block ?_
      refine NW.block ?_
      refine NW.meet (r) ?j1 ?e1 ?h1
      case j1 => exact ⟨⟨q ++ [(p, s)], by rw [hq]; simp⟩, Nat.lt_succ_self _⟩
      case e1 => repeat (first | exact Env.Le.nil _ | refine Env.Le.cons rfl ?_)
      case h1 => repeat (first | exact Sub.heap_nil _ | exact Sub.refl _ | refine Sub.heap_cons (Take.none _) ?_ | refine Sub.heap_cons (by repeat (first | exact Take.head _ _ | apply Take.tail)) ?_)

theorem errors_As (l : List (Nat × List UInt8)) (c : Int) (t : Nat) (old : Value) (h0 : 0 < B) (hg : W.cell? ⟨0, 0, none⟩ = some (rty 26)) :
    Spec Tryf.prog W B 13 [chainV l (eno c), .iface 36 (.pointer (some ⟨t, 0, none⟩))] ([cr t 24 [old]] ++ chainR l (eno c))
      (fun r post => r = .bool true ∧ post = [cr t 24 [.int .i64 c]] ++ chainR l (eno c)) := by
  refine Spec.enter ([[cr t 24 [old]], chainR l (eno c)]) Tryf.func13 rfl Tryf.ntmps13 rfl (by first | rfl | simp) (fun w0 => ?_)
  refine CW.seq ?_
  refine CW.region ?_
  refine LW.assign rfl rfl ?_
  refine LW.nil ?_
  refine NW.then_ ?_
  refine CW.seq ?_
  refine CW.seq ?_
  refine CW.region ?_
  refine LW.move rfl rfl ?_
  refine LW.ifaceNil false rfl Tryf.underlying26 (.inr ⟨chainV_iface l c, rfl⟩) rfl ?_
  refine LW.nil ?_
  refine NW.then_ ?_
  refine CW.cond_false rfl ?_
  refine CW.skip ?_
  refine NW.then_ ?_
  refine CW.seq ?_
  refine CW.seq ?_
  refine CW.region ?_
  refine LW.move rfl rfl ?_
  refine LW.ifaceNil _ rfl Tryf.underlying20 (.inr ⟨⟨_, _, rfl⟩, rfl⟩) rfl ?_
  refine LW.nil ?_
  refine NW.then_ ?_
  refine CW.cond_false rfl ?_
  refine CW.skip ?_
  refine NW.then_ ?_
  refine CW.seq ?_
  refine CW.region ?_
  refine LW.move rfl rfl ?_
  refine LW.extAlloc (args := [.iface 36 (.pointer (some ⟨t, 0, none⟩))]) (fun b => rval 36 b 150) 36 [.pointer (some ⟨t, 0, none⟩)] xValueOf ⟨rfl, trivial⟩ (fun w _ => valueOfP w t) rfl (fun b14 => ?_)
  refine LW.alloc FactsFail1.zero69 rfl ?_
  intro ba5
  refine LW.storeAgg ([hd 36, .pointer (some ⟨b14, 0, none⟩), .int .u64 150]) rfl rfl (by repeat (first | exact Take.head _ _ | apply Take.tail)) (by rw [FactsFail1.szt69]; exact congrArg some (Eq.symm (rfl))) (by exact Nat.le_refl 3) (rvalCells_one _ _ _) (rfl) ?_
  refine LW.nil ?_
  refine NW.then_ ?_
  refine CW.seq ?_
  refine CW.region ?_
  refine LW.loadAgg ([hd 36, .pointer (some ⟨b14, 0, none⟩), .int .u64 150]) rfl (by repeat (first | exact Take.head _ _ | apply Take.tail)) (by intro j v hj; rw [Nat.zero_add]; exact hj) Tryf.underlying69 rfl (by rw [FactsFail1.szt69]; exact congrArg some (Eq.symm (rfl))) rfl ?_
  refine LW.ext (args := [rval 36 b14 150]) (rty 36) xType ⟨rfl, trivial⟩ (fun w _ => typeP w b14) rfl ?_
  refine LW.assign rfl rfl ?_
  refine LW.nil ?_
  refine NW.then_ ?_
  refine CW.seq ?_
  refine CW.seq ?_
  refine CW.region ?_
  refine LW.move rfl rfl ?_
  refine LW.invExt (args := []) (.int .u8 22) rfl (mKind _) xKind trivial (fun w _ => kindP w) rfl ?_
  refine LW.neq false rfl rfl (rfl) rfl ?_
  refine LW.move rfl rfl ?_
  refine LW.on 20 rfl rfl ?_
  refine LW.loadAgg ([hd 36, .pointer (some ⟨b14, 0, none⟩), .int .u64 150]) rfl (by repeat (first | exact Take.head _ _ | apply Take.tail)) (by intro j v hj; rw [Nat.zero_add]; exact hj) Tryf.underlying69 rfl (by rw [FactsFail1.szt69]; exact congrArg some (Eq.symm (rfl))) rfl ?_
  refine LW.on 20 rfl rfl ?_
  refine LW.ext (args := [rval 36 b14 150]) (.bool false) xIsNil ⟨rfl, trivial⟩ (fun w s => isNilP w b14 t (s.cell (by repeat (first | exact Take.head _ _ | apply Take.tail)) rfl)) rfl ?_
  refine LW.pickF rfl rfl rfl ?_
  refine LW.nil ?_
  refine NW.then_ ?_
  refine CW.cond_false rfl ?_
  refine CW.skip ?_
  refine NW.then_ ?_
  refine CW.seq ?_
  refine CW.region ?_
  refine LW.move rfl rfl ?_
  refine LW.invExt (args := []) (rty 24) rfl (mElem _) xElem trivial (fun w _ => elemP w) rfl ?_
  refine LW.assign rfl rfl ?_
  refine LW.nil ?_
  refine NW.then_ ?_
  refine CW.seq ?_
  refine CW.seq ?_
  refine CW.region ?_
  refine LW.move rfl rfl ?_
  refine LW.invExt (args := []) (.int .u8 2) rfl (mKind _) xKind trivial (fun w _ => kindE w) rfl ?_
  refine LW.neq true rfl rfl (rfl) rfl ?_
  refine LW.move rfl rfl ?_
  refine LW.on 30 rfl rfl ?_
  refine LW.move rfl rfl ?_
  refine LW.on 30 rfl rfl ?_
  refine LW.loadOld rfl (h0) (hg) FactsFail1.one62 rfl ?_
  refine LW.on 30 rfl rfl ?_
  refine LW.invExt (args := [rty 26]) (.bool true) rfl (mImpl _) xImpl ⟨rfl, trivial⟩ (fun w _ => implE w) rfl ?_
  refine LW.on 30 rfl rfl ?_
  refine LW.not _ rfl rfl rfl ?_
  refine LW.pickT rfl rfl rfl ?_
  refine LW.nil ?_
  refine NW.then_ ?_
  refine CW.cond_false rfl ?_
  refine CW.skip ?_
  refine NW.then_ ?_
  refine CW.seq ?_
  refine CW.region ?_
  refine LW.move rfl rfl ?_
  refine LW.move rfl rfl ?_
  refine LW.loadAgg ([hd 36, .pointer (some ⟨b14, 0, none⟩), .int .u64 150]) rfl (by repeat (first | exact Take.head _ _ | apply Take.tail)) (by intro j v hj; rw [Nat.zero_add]; exact hj) Tryf.underlying69 rfl (by rw [FactsFail1.szt69]; exact congrArg some (Eq.symm (rfl))) rfl ?_
  refine LW.move rfl rfl ?_
  refine LW.call (errors_as W B l c t b14 old) Tryf.func32 rfl FactsFail1.fname32 ⟨rfl, rfl, rfl, rfl, trivial⟩ (Take.both (by repeat (first | exact Take.head _ _ | apply Take.tail)) (Take.both (by repeat (first | exact Take.head _ _ | apply Take.tail)) (by repeat (first | exact Take.head _ _ | apply Take.tail)))) rfl ?_
  rintro _ _ ⟨rfl, rfl⟩
  refine LW.assign rfl rfl ?_
  refine LW.nil ?_
  refine NW.then_ ?_
  refine CW.ret ?_
  refine NW.ret1 rfl rfl ⟨_, ⟨rfl, rfl⟩, ?_⟩
  exact Sub.one (by repeat (first | exact Take.head _ _ | apply Take.tail))
end
end Go.Proofs.YtemdebmfdhamgaaFmt
