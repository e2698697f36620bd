/-
  errors.As, errors.Is, package fail over one *fail.at around two errors in one; FailNone, walked.
-/
import Derived.Test.YtmgpldgldgdenaaDoorJoin1
import Derived.Test.YtmgpldgldgdenaaDoorLawNone
import Derived.Test.YtmgpldgldgdenaaDoorOps2
namespace Go.Proofs.YtmgpldgldgdenaaDoor
open Go.RowKit Go.Extern
namespace FactsJoin2
theorem concrete101 : Tryd.prog.concrete 101 = true := by kernel_rfl
theorem concrete28 : Tryd.prog.concrete 28 = true := by kernel_rfl
theorem concrete97 : Tryd.prog.concrete 97 = true := by kernel_rfl
theorem fa99_0 (b o : Nat) (w : World) : (Instr.fieldAt 99 (.pointer (some ⟨b, o, none⟩)) 0).run Tryd.prog w = .ok (.pointer (some ⟨b, o, none⟩)) w := by kernel_rfl
theorem fa99_1 (b o : Nat) (w : World) : (Instr.fieldAt 99 (.pointer (some ⟨b, o, none⟩)) 1).run Tryd.prog w = .ok (.pointer (some ⟨b, o + 1, none⟩)) w := by kernel_rfl
theorem fname56 : (Tryd.f56.name == "runtime.NumGoroutine") = false := by kernel_rfl
theorem fname57 : (Tryd.f57.name == "runtime.NumGoroutine") = false := by kernel_rfl
theorem fname61 : (Tryd.f61.name == "runtime.NumGoroutine") = false := by kernel_rfl
theorem fname63 : (Tryd.f63.name == "runtime.NumGoroutine") = false := by kernel_rfl
theorem fname85 : (Tryd.f85.name == "runtime.NumGoroutine") = false := by kernel_rfl
theorem fname87 : (Tryd.f87.name == "runtime.NumGoroutine") = false := by kernel_rfl
theorem info9 : (Tryd.prog.info? 9).map (fun i => (i.zero, i.size, i.bytes)) = some (some (.string ⟨#[]⟩), 1, 16) := by kernel_rfl
theorem ixs103 : (Tryd.prog.info? 80).map (·.size) = some 1 := by kernel_rfl
theorem mixed : Tryd.prog.follows .mixedOrders = true := by kernel_rfl
theorem one114 : oneB Tryd.prog 114 = true := by kernel_rfl
theorem one28 : oneB Tryd.prog 28 = true := by kernel_rfl
theorem one80 : oneB Tryd.prog 80 = true := by kernel_rfl
theorem one9 : oneB Tryd.prog 9 = true := by kernel_rfl
theorem szt111 : (Tryd.prog.info? 111).map (·.size) = some 3 := by kernel_rfl
theorem zero111 : (Tryd.prog.info? 111).bind (·.zero) = some (.agg #[.pointer none, .pointer none, .int .u64 0]) := by kernel_rfl
theorem zero28 : (Tryd.prog.info? 28).bind (·.zero) = some (.int .i64 0) := by kernel_rfl
end FactsJoin2
/-- The rows of a *fail.at around a join of two. -/
def ajR (p : Nat) (s : List UInt8) (q : Nat) (sl : Value) (ch : List Row) : List Row := [cr p 99 [strV s, joinV q]] ++ ([cr q 106 [sl]] ++ ch)
def atV (p : Nat) : Value := .iface 97 (.pointer (some ⟨p, 0, none⟩))
section
variable (W : World) (B : Nat)
theorem As_join (p : Nat) (s : List UInt8) (q : Nat) (sl : Value) (ch : List Row) (c d : Int) (ho : OwnS 80 1 sl 2 [eno c, eno d] ch) (t : Nat) (old : Value) (h0 : 0 < B) (hg : W.cell? ⟨0, 0, none⟩ = some (rty 80)) :
    Spec Tryd.prog W B 56 [atV p, .iface 101 (.pointer (some ⟨t, 0, none⟩))] ([cr t 28 [old]] ++ ajR p s q sl ch)
      (fun r post => r = .bool true ∧ post = [cr t 28 [.int .i64 c]] ++ ajR p s q sl ch) := by
  refine Spec.enter ([[cr t 28 [old]], ajR p s q sl ch]) Tryd.func56 rfl Tryd.ntmps56 rfl (by first | rfl | simp) (fun w0 => ?_)
  refine CW.seq ?_
  refine CW.region ?_
  refine LW.assign rfl rfl ?_
  refine LW.nil ?_
  refine NW.then_ ?_
  refine CW.seq ?_
  refine CW.seq ?_
  refine CW.region ?_
  refine LW.move rfl rfl ?_
  refine LW.ifaceNil _ rfl Tryd.underlying80 (.inr ⟨⟨_, _, rfl⟩, rfl⟩) rfl ?_
  refine LW.nil ?_
  refine NW.then_ ?_
  refine CW.cond_false rfl ?_
  refine CW.skip ?_
  refine NW.then_ ?_
  refine CW.seq ?_
  refine CW.seq ?_
  refine CW.region ?_
  refine LW.move rfl rfl ?_
  refine LW.ifaceNil _ rfl Tryd.underlying20 (.inr ⟨⟨_, _, rfl⟩, rfl⟩) rfl ?_
  refine LW.nil ?_
  refine NW.then_ ?_
  refine CW.cond_false rfl ?_
  refine CW.skip ?_
  refine NW.then_ ?_
  refine CW.seq ?_
  refine CW.region ?_
  refine LW.move rfl rfl ?_
  refine LW.extAlloc (args := [.iface 101 (.pointer (some ⟨t, 0, none⟩))]) (fun b => rval 101 b 150) 101 [.pointer (some ⟨t, 0, none⟩)] xValueOf ⟨rfl, trivial⟩ (fun w _ => valueOfP w t) rfl (fun b14 => ?_)
  refine LW.alloc FactsJoin2.zero111 rfl ?_
  intro ba5
  refine LW.storeAgg ([hd 101, .pointer (some ⟨b14, 0, none⟩), .int .u64 150]) rfl rfl (by repeat (first | exact Take.head _ _ | apply Take.tail)) (by rw [FactsJoin2.szt111]; exact congrArg some (Eq.symm (rfl))) (by exact Nat.le_refl 3) (rvalCells_one _ _ _) (rfl) ?_
  refine LW.nil ?_
  refine NW.then_ ?_
  refine CW.seq ?_
  refine CW.region ?_
  refine LW.loadAgg ([hd 101, .pointer (some ⟨b14, 0, none⟩), .int .u64 150]) rfl (by repeat (first | exact Take.head _ _ | apply Take.tail)) (by intro j v hj; rw [Nat.zero_add]; exact hj) Tryd.underlying111 rfl (by rw [FactsJoin2.szt111]; exact congrArg some (Eq.symm (rfl))) rfl ?_
  refine LW.ext (args := [rval 101 b14 150]) (rty 101) xType ⟨rfl, trivial⟩ (fun w _ => typeP w b14) rfl ?_
  refine LW.assign rfl rfl ?_
  refine LW.nil ?_
  refine NW.then_ ?_
  refine CW.seq ?_
  refine CW.seq ?_
  refine CW.region ?_
  refine LW.move rfl rfl ?_
  refine LW.invExt (args := []) (.int .u8 22) rfl (mKind _) xKind trivial (fun w _ => kindP w) rfl ?_
  refine LW.neq false rfl rfl (rfl) rfl ?_
  refine LW.move rfl rfl ?_
  refine LW.on 20 rfl rfl ?_
  refine LW.loadAgg ([hd 101, .pointer (some ⟨b14, 0, none⟩), .int .u64 150]) rfl (by repeat (first | exact Take.head _ _ | apply Take.tail)) (by intro j v hj; rw [Nat.zero_add]; exact hj) Tryd.underlying111 rfl (by rw [FactsJoin2.szt111]; exact congrArg some (Eq.symm (rfl))) rfl ?_
  refine LW.on 20 rfl rfl ?_
  refine LW.ext (args := [rval 101 b14 150]) (.bool false) xIsNil ⟨rfl, trivial⟩ (fun w s => isNilP w b14 t (s.cell (by repeat (first | exact Take.head _ _ | apply Take.tail)) rfl)) rfl ?_
  refine LW.pickF rfl rfl rfl ?_
  refine LW.nil ?_
  refine NW.then_ ?_
  refine CW.cond_false rfl ?_
  refine CW.skip ?_
  refine NW.then_ ?_
  refine CW.seq ?_
  refine CW.region ?_
  refine LW.move rfl rfl ?_
  refine LW.invExt (args := []) (rty 28) rfl (mElem _) xElem trivial (fun w _ => elemP w) rfl ?_
  refine LW.assign rfl rfl ?_
  refine LW.nil ?_
  refine NW.then_ ?_
  refine CW.seq ?_
  refine CW.seq ?_
  refine CW.region ?_
  refine LW.move rfl rfl ?_
  refine LW.invExt (args := []) (.int .u8 2) rfl (mKind _) xKind trivial (fun w _ => kindE w) rfl ?_
  refine LW.neq true rfl rfl (rfl) rfl ?_
  refine LW.move rfl rfl ?_
  refine LW.on 30 rfl rfl ?_
  refine LW.move rfl rfl ?_
  refine LW.on 30 rfl rfl ?_
  refine LW.loadOld rfl (h0) (hg) FactsJoin2.one114 rfl ?_
  refine LW.on 30 rfl rfl ?_
  refine LW.invExt (args := [rty 80]) (.bool true) rfl (mImpl _) xImpl ⟨rfl, trivial⟩ (fun w _ => implE w) rfl ?_
  refine LW.on 30 rfl rfl ?_
  refine LW.not _ rfl rfl rfl ?_
  refine LW.pickT rfl rfl rfl ?_
  refine LW.nil ?_
  refine NW.then_ ?_
  refine CW.cond_false rfl ?_
  refine CW.skip ?_
  refine NW.then_ ?_
  refine CW.seq ?_
  refine CW.region ?_
  refine LW.move rfl rfl ?_
  refine LW.move rfl rfl ?_
  refine LW.loadAgg ([hd 101, .pointer (some ⟨b14, 0, none⟩), .int .u64 150]) rfl (by repeat (first | exact Take.head _ _ | apply Take.tail)) (by intro j v hj; rw [Nat.zero_add]; exact hj) Tryd.underlying111 rfl (by rw [FactsJoin2.szt111]; exact congrArg some (Eq.symm (rfl))) rfl ?_
  refine LW.move rfl rfl ?_
  refine LW.call (as_join W B p s q sl ch c d ho t b14 old) Tryd.func61 rfl FactsJoin2.fname61 ⟨rfl, rfl, rfl, rfl, trivial⟩ (Take.both (by repeat (first | exact Take.head _ _ | apply Take.tail)) (Take.both (by repeat (first | exact Take.head _ _ | apply Take.tail)) (by repeat (first | exact Take.head _ _ | apply Take.tail)))) rfl ?_
  rintro _ _ ⟨rfl, rfl⟩
  refine LW.assign rfl rfl ?_
  refine LW.nil ?_
  refine NW.then_ ?_
  refine CW.ret ?_
  refine NW.ret1 rfl rfl ⟨_, ⟨rfl, rfl⟩, ?_⟩
  exact Sub.one (by repeat (first | exact Take.head _ _ | apply Take.tail))

theorem is_join (p : Nat) (s : List UInt8) (q : Nat) (sl : Value) (ch : List Row) (c d c2 : Int) (ho : OwnS 80 1 sl 2 [eno c, eno d] ch) :
    Spec Tryd.prog W B 63 [atV p, eno c2, .bool true] (ajR p s q sl ch) (fun r post => r = .bool (c == c2 || d == c2) ∧ post = ajR p s q sl ch) := by
  obtain ⟨A2, cp2, rfl, hA2, hc2⟩ := ho.val
  obtain ⟨a2, rfl⟩ : ∃ x, A2 = some x := by
    cases A2 with
    | none => exact absurd (hA2 rfl) (by decide)
    | some x => exact ⟨x, rfl⟩
  have hget : ∀ i, i < 2 → [eno c, eno d][i]? = some (eno ([c, d].getD i 0)) := fun i hi => by
    have : i = 0 ∨ i = 1 := by omega
    rcases this with rfl | rfl <;> rfl
  unfold ajR
  refine Spec.enter ([[cr p 99 [strV s, joinV q]], [cr q 106 [.slice (some a2) 2 cp2]], ch]) Tryd.func63 rfl Tryd.ntmps63 rfl (by first | rfl | simp) (fun w0 => ?_)
  refine CW.seq ?_
  refine CW.region ?_
  refine LW.assign rfl rfl ?_
  refine LW.nil ?_
  refine NW.then_ ?_
  refine CW.block ?_
  refine CW.loop (fun b : Bool => [(0, if b then atV p else joinV q), (1, eno c2), (2, .bool true)]) (fun _ => [[cr p 99 [strV s, joinV q]], [cr q 106 [.slice (some a2) 2 cp2]], ch]) (fun _ => True) (fun b => if b then 1 else 0) true ?st1_j ?st1_e ?st1_h ?st1_r
  case st1_j => exact trivial
  case st1_e => repeat (first | exact Env.Le.nil _ | refine Env.Le.cons rfl ?_)
  case st1_h => repeat (first | exact Sub.heap_nil _ | exact Sub.refl _ | refine Sub.heap_cons (by repeat (first | exact Take.head _ _ | apply Take.tail)) ?_)
  case st1_r =>
    rintro b _
    refine CW.block ?_
    refine CW.seq ?_
    refine CW.seq ?_
    refine CW.region ?_
    refine LW.move rfl rfl ?_
    refine LW.move rfl rfl ?_
    cases b
    · refine LW.on 15 rfl rfl ?_
      refine LW.move rfl rfl ?_
      refine LW.on 15 rfl rfl ?_
      refine LW.move rfl rfl ?_
      refine LW.on 15 rfl rfl ?_
      refine LW.ifaceEqNe (tx := 104) (ty' := 28) rfl rfl Tryd.underlying80 (by decide) rfl ?_
      refine LW.pickT rfl rfl rfl ?_
      refine LW.nil ?_
      refine NW.then_ ?_
      refine CW.cond_false rfl ?_
      refine CW.skip ?_
      refine NW.then_ ?_
      refine CW.seq ?_
      refine CW.seq ?_
      refine CW.region ?_
      refine LW.move rfl rfl ?_
      refine LW.tassert rfl (fun w => noIsJ _ _ w) rfl ?_
      refine LW.move rfl rfl ?_
      refine LW.extract rfl rfl rfl ?_
      refine LW.extract rfl rfl rfl ?_
      refine LW.assign rfl rfl ?_
      refine LW.assign rfl rfl ?_
      refine LW.nil ?_
      refine NW.then_ ?_
      refine CW.seq ?_
      refine CW.region ?_
      refine LW.move rfl rfl ?_
      refine LW.move rfl rfl ?_
      refine LW.off 26 rfl rfl rfl rfl ?_
      refine LW.off 26 rfl rfl rfl rfl ?_
      refine LW.off 26 rfl rfl rfl rfl ?_
      refine LW.pickF rfl rfl rfl ?_
      refine LW.nil ?_
      refine NW.then_ ?_
      refine CW.cond_false rfl ?_
      refine CW.skip ?_
      refine NW.then_ ?_
      refine CW.seq ?_
      refine CW.region ?_
      refine LW.move rfl rfl ?_
      refine LW.nil ?_
      refine NW.then_ ?_
      refine CW.block ?_
      refine CW.seq ?_
      refine CW.region ?_
      refine LW.tassert rfl (fun w => noUnwJ _ _ w) rfl ?_
      refine LW.extract rfl rfl rfl ?_
      refine LW.extract rfl rfl rfl ?_
      refine LW.nil ?_
      refine NW.then_ ?_
      refine CW.cond_false rfl ?_
      refine CW.seq ?_
      refine CW.region ?_
      refine LW.tassert rfl (fun w => unwsJ _ _ w) rfl ?_
      refine LW.extract rfl rfl rfl ?_
      refine LW.extract rfl rfl rfl ?_
      refine LW.nil ?_
      refine NW.then_ ?_
      refine CW.cond_true rfl ?_
      refine CW.seq ?_
      refine CW.region ?_
      refine LW.assign rfl rfl ?_
      refine LW.nil ?_
      refine NW.then_ ?_
      refine CW.seq ?_
      refine CW.seq ?_
      refine CW.region ?_
      refine LW.move rfl rfl ?_
      refine LW.invCall (args := []) rfl (mUnwrapJ _) (join_Unwrap W B q (.slice (some a2) 2 cp2)) Tryd.func87 rfl FactsJoin2.fname87 trivial (by repeat (first | exact Take.head _ _ | apply Take.tail)) rfl ?_
      rintro _ _ ⟨rfl, rfl⟩
      refine LW.lenSlice rfl Tryd.underlying103 rfl ?_
      refine LW.move rfl rfl ?_
      refine LW.nil ?_
      refine NW.then_ ?_
      refine CW.block ?_
      refine CW.loop (fun i : Nat => [(45, .int .i64 (i : Int)), (44, .int .i64 2), (43, .slice (some a2) 2 cp2), (1, eno c2), (2, .bool true)]) (fun _ => [[cr p 99 [strV s, joinV q]], [cr q 106 [.slice (some a2) 2 cp2]], ch]) (fun i => i ≤ 2 ∧ (0 < i → (c == c2) = false) ∧ (1 < i → (d == c2) = false)) (fun i => 2 - i) 0 ?st17_j ?st17_e ?st17_h ?st17_r
      case st17_j => exact ⟨by omega, fun h => by omega, fun h => by omega⟩
      case st17_e => repeat (first | exact Env.Le.nil _ | refine Env.Le.cons rfl ?_)
      case st17_h => repeat (first | exact Sub.heap_nil _ | exact Sub.refl _ | refine Sub.heap_cons (by repeat (first | exact Take.head _ _ | apply Take.tail)) ?_)
      case st17_r =>
        rintro i ⟨hi, hc0, hd0⟩
        refine CW.seq ?_
        refine CW.region ?_
        refine LW.lss (decide ((i : Int) < 2)) rfl rfl (rfl) rfl ?_
        refine LW.nil ?_
        refine NW.then_ ?_
        refine CW.seq ?_
        refine CW.cond rfl (fun hc46 => ?_) (fun hc46 => ?_)
        · have hi2 : i < 2 := by have := of_decide_eq_true hc46; omega
          have hgi := hget i hi2
          have hii : (i = 0 ∧ [c, d].getD i 0 = c) ∨ (i = 1 ∧ [c, d].getD i 0 = d) := by
            have : i = 0 ∨ i = 1 := by omega
            rcases this with rfl | rfl
            · exact .inl ⟨rfl, rfl⟩
            · exact .inr ⟨rfl, rfl⟩
          generalize [c, d].getD i 0 = x at hgi hii
          refine CW.skip ?_
          refine NW.then_ ?_
          refine CW.seq ?_
          refine CW.block ?_
          refine CW.seq ?_
          refine CW.region ?_
          refine LW.indexAt rfl rfl Tryd.underlying103 FactsJoin2.ixs103 (by omega) (by omega) rfl ?_
          refine LW.loadRd (v := eno x) rfl (ho.src.rd (by repeat (first | exact Take.head _ _ | apply Take.tail))) (by simpa using hgi) FactsJoin2.one80 rfl ?_
          refine LW.assign rfl rfl ?_
          refine LW.nil ?_
          refine NW.then_ ?_
          refine CW.seq ?_
          refine CW.region ?_
          refine LW.move rfl rfl ?_
          refine LW.move rfl rfl ?_
          refine LW.move rfl rfl ?_
          refine LW.call (errors_is W B [] x c2) Tryd.func63 rfl FactsJoin2.fname63 ⟨rfl, rfl, rfl, trivial⟩ (Take.none _) rfl ?_
          rintro _ _ ⟨rfl, rfl⟩
          refine LW.nil ?_
          refine NW.then_ ?_
          refine CW.cond rfl (fun hc52 => ?_) (fun hc52 => ?_)
          · refine CW.seq ?_
            refine CW.region ?_
            refine LW.assign rfl rfl ?_
            refine LW.nil ?_
            refine NW.then_ ?_
            refine CW.ret ?_
            refine NW.block_ret ?_
            refine NW.then_ret ?_
            refine NW.then_ret ?_
            refine NW.block_ret ?_
            refine NW.then_ret ?_
            refine NW.block_ret ?_
            refine NW.block_ret ?_
            refine NW.then_ret ?_
            refine NW.block_ret ?_
            refine NW.ret1 rfl rfl ⟨_, ⟨by rcases hii with ⟨_, rfl⟩ | ⟨_, rfl⟩ <;> simp [hc52], rfl⟩, ?_⟩
            exact Sub.take (p := [_]) (by repeat (first | exact Take.head _ _ | apply Take.tail)) (Sub.take (p := [_]) (by repeat (first | exact Take.head _ _ | apply Take.tail)) (Sub.one (by repeat (first | exact Take.head _ _ | apply Take.tail))))
          · refine CW.skip ?_
            refine NW.block ?_
            refine NW.then_ ?_
            refine CW.region ?_
            refine LW.add ((i + 1 : Int)) rfl rfl (by first | rfl | exact wr64 (by omega) (by omega) (by omega)) rfl ?_
            refine LW.move rfl rfl ?_
            refine LW.nil ?_
            refine NW.meet (i + 1) ?j1 ?e1 ?h1
            case j1 => exact ⟨⟨hi2, fun _ => by
              rcases hii with ⟨_, rfl⟩ | ⟨h1, _⟩
              · exact hc52
              · exact hc0 (by omega), fun h => by
              rcases hii with ⟨h1, _⟩ | ⟨_, rfl⟩
              · omega
              · exact hc52⟩, by omega⟩
            case e1 => repeat (first | exact Env.Le.nil _ | refine Env.Le.cons rfl ?_)
            case h1 => repeat (first | exact Sub.heap_nil _ | exact Sub.refl _ | refine Sub.heap_cons (by repeat (first | exact Take.head _ _ | apply Take.tail)) ?_)
        · have hi2 : i = 2 := by have := of_decide_eq_false hc46; omega
          refine CW.exit ?_
          refine NW.then_exit ?_
          refine NW.then_exit ?_
          refine NW.block_exit ?_
          refine NW.then_ ?_
          refine CW.seq ?_
          refine CW.region ?_
          refine LW.assign rfl rfl ?_
          refine LW.nil ?_
          refine NW.then_ ?_
          refine CW.ret ?_
          refine NW.block_ret ?_
          refine NW.block_ret ?_
          refine NW.then_ret ?_
          refine NW.block_ret ?_
          refine NW.ret1 rfl rfl ⟨_, ⟨by rw [hc0 (by omega), hd0 (by omega)]; rfl, rfl⟩, ?_⟩
          exact Sub.take (p := [_]) (by repeat (first | exact Take.head _ _ | apply Take.tail)) (Sub.take (p := [_]) (by repeat (first | exact Take.head _ _ | apply Take.tail)) (Sub.one (by repeat (first | exact Take.head _ _ | apply Take.tail))))
    · refine LW.on 15 rfl rfl ?_
      refine LW.move rfl rfl ?_
      refine LW.on 15 rfl rfl ?_
      refine LW.move rfl rfl ?_
      refine LW.on 15 rfl rfl ?_
      refine LW.ifaceEqNe (tx := 97) (ty' := 28) rfl rfl Tryd.underlying80 (by decide) rfl ?_
      refine LW.pickT rfl rfl rfl ?_
      refine LW.nil ?_
      refine NW.then_ ?_
      refine CW.cond_false rfl ?_
      refine CW.skip ?_
      refine NW.then_ ?_
      refine CW.seq ?_
      refine CW.seq ?_
      refine CW.region ?_
      refine LW.move rfl rfl ?_
      refine LW.tassert rfl (fun w => noIsA _ _ w) rfl ?_
      refine LW.move rfl rfl ?_
      refine LW.extract rfl rfl rfl ?_
      refine LW.extract rfl rfl rfl ?_
      refine LW.assign rfl rfl ?_
      refine LW.assign rfl rfl ?_
      refine LW.nil ?_
      refine NW.then_ ?_
      refine CW.seq ?_
      refine CW.region ?_
      refine LW.move rfl rfl ?_
      refine LW.move rfl rfl ?_
      refine LW.off 26 rfl rfl rfl rfl ?_
      refine LW.off 26 rfl rfl rfl rfl ?_
      refine LW.off 26 rfl rfl rfl rfl ?_
      refine LW.pickF rfl rfl rfl ?_
      refine LW.nil ?_
      refine NW.then_ ?_
      refine CW.cond_false rfl ?_
      refine CW.skip ?_
      refine NW.then_ ?_
      refine CW.seq ?_
      refine CW.region ?_
      refine LW.move rfl rfl ?_
      refine LW.nil ?_
      refine NW.then_ ?_
      refine CW.block ?_
      refine CW.seq ?_
      refine CW.region ?_
      refine LW.tassert rfl (fun w => unwA _ _ w) rfl ?_
      refine LW.extract rfl rfl rfl ?_
      refine LW.extract rfl rfl rfl ?_
      refine LW.nil ?_
      refine NW.then_ ?_
      refine CW.cond_true rfl ?_
      refine CW.seq ?_
      refine CW.region ?_
      refine LW.assign rfl rfl ?_
      refine LW.nil ?_
      refine NW.then_ ?_
      refine CW.seq ?_
      refine CW.region ?_
      refine LW.move rfl rfl ?_
      refine LW.invCall (args := []) rfl (mUnwrap _) (at_Unwrap W B p s (joinV q) [cr p 99 [strV s, joinV q]] List.mem_cons_self) Tryd.func85 rfl FactsJoin2.fname85 trivial (by repeat (first | exact Take.head _ _ | apply Take.tail)) rfl ?_
      rintro _ _ ⟨rfl, rfl⟩
      refine LW.assign rfl rfl ?_
      refine LW.nil ?_
      refine NW.then_ ?_
      refine CW.seq ?_
      refine CW.region ?_
      refine LW.move rfl rfl ?_
      refine LW.ifaceNil _ rfl Tryd.underlying80 (.inr ⟨⟨_, _, rfl⟩, rfl⟩) rfl ?_
      refine LW.nil ?_
      refine NW.then_ ?_
      refine CW.cond_false rfl ?_
      refine CW.skip ?_
      refine NW.block ?_
      refine NW.block ?_
      refine NW.meet (false) ?j2 ?e2 ?h2
      case j2 => exact ⟨trivial, by decide⟩
      case e2 => repeat (first | exact Env.Le.nil _ | refine Env.Le.cons rfl ?_)
      case h2 => repeat (first | exact Sub.heap_nil _ | exact Sub.refl _ | refine Sub.heap_cons (by repeat (first | exact Take.head _ _ | apply Take.tail)) ?_)

theorem Is_join (p : Nat) (s : List UInt8) (q : Nat) (sl : Value) (ch : List Row) (c d c2 : Int) (ho : OwnS 80 1 sl 2 [eno c, eno d] ch) :
    Spec Tryd.prog W B 57 [atV p, eno c2] (ajR p s q sl ch) (fun r post => r = .bool (c == c2 || d == c2) ∧ post = ajR p s q sl ch) := by
  refine Spec.enter ([ajR p s q sl ch]) Tryd.func57 rfl Tryd.ntmps57 rfl (by first | rfl | simp) (fun w0 => ?_)
  refine CW.seq ?_
  refine CW.region ?_
  refine LW.assign rfl rfl ?_
  refine LW.nil ?_
  refine NW.then_ ?_
  refine CW.seq ?_
  refine CW.seq ?_
  refine CW.region ?_
  refine LW.move rfl rfl ?_
  refine LW.ifaceNil _ rfl Tryd.underlying80 (.inr ⟨⟨_, _, rfl⟩, rfl⟩) rfl ?_
  refine LW.move rfl rfl ?_
  refine LW.on 8 rfl rfl ?_
  refine LW.move rfl rfl ?_
  refine LW.on 8 rfl rfl ?_
  refine LW.ifaceNil _ rfl Tryd.underlying80 (.inr ⟨⟨_, _, rfl⟩, rfl⟩) rfl ?_
  refine LW.pickF rfl rfl rfl ?_
  refine LW.nil ?_
  refine NW.then_ ?_
  refine CW.cond_false rfl ?_
  refine CW.skip ?_
  refine NW.then_ ?_
  refine CW.seq ?_
  refine CW.region ?_
  refine LW.move rfl rfl ?_
  refine LW.ext (args := [eno c2]) (rty 28) xTypeOf ⟨rfl, trivial⟩ (fun w _ => typeOfE w c2) rfl ?_
  refine LW.invExt (args := []) (.bool true) rfl (mComp _) xComp trivial (fun w _ => compE w) rfl ?_
  refine LW.assign rfl rfl ?_
  refine LW.nil ?_
  refine NW.then_ ?_
  refine CW.seq ?_
  refine CW.region ?_
  refine LW.move rfl rfl ?_
  refine LW.move rfl rfl ?_
  refine LW.move rfl rfl ?_
  refine LW.call (is_join W B p s q sl ch c d c2 ho) Tryd.func63 rfl FactsJoin2.fname63 ⟨rfl, rfl, rfl, trivial⟩ ((by repeat (first | exact Take.head _ _ | apply Take.tail))) rfl ?_
  rintro _ _ ⟨rfl, rfl⟩
  refine LW.assign rfl rfl ?_
  refine LW.nil ?_
  refine NW.then_ ?_
  refine CW.ret ?_
  refine NW.ret1 rfl rfl ⟨_, ⟨rfl, rfl⟩, ?_⟩
  exact Sub.one (by repeat (first | exact Take.head _ _ | apply Take.tail))

theorem failJ_At (s : List UInt8) (q : Nat) : Spec Tryd.prog W B 46 [strV s, joinV q] [] (fun r post => ∃ p, r = atV p ∧ post = [cr p 99 [strV s, joinV q]]) := by
  refine Spec.enter ([]) Tryd.func46 rfl Tryd.ntmps46 rfl (by first | rfl | simp) (fun w0 => ?_)
  refine CW.seq ?_
  refine CW.region ?_
  refine LW.assign rfl rfl ?_
  refine LW.nil ?_
  refine NW.then_ ?_
  refine CW.seq ?_
  refine CW.seq ?_
  refine CW.region ?_
  refine LW.move rfl rfl ?_
  refine LW.ifaceNil _ rfl Tryd.underlying80 (.inr ⟨⟨_, _, rfl⟩, rfl⟩) rfl ?_
  refine LW.move rfl rfl ?_
  refine LW.on 7 rfl rfl ?_
  refine LW.move rfl rfl ?_
  refine LW.on 7 rfl rfl ?_
  refine LW.mkIface rfl FactsJoin2.concrete28 rfl ?_
  refine LW.on 7 rfl rfl ?_
  refine LW.ifaceEqNe (tx := 104) (ty' := 28) rfl rfl Tryd.underlying80 (by decide) rfl ?_
  refine LW.pickF rfl rfl rfl ?_
  refine LW.nil ?_
  refine NW.then_ ?_
  refine CW.cond_false rfl ?_
  refine CW.skip ?_
  refine NW.then_ ?_
  refine CW.seq ?_
  refine CW.region ?_
  refine LW.move rfl rfl ?_
  refine LW.move rfl rfl ?_
  refine LW.build (vs := [_, _]) (#[strV s, joinV q]) ⟨rfl, rfl, trivial⟩ (by kernel_rfl) rfl ?_
  refine LW.box rfl rfl ?_
  intro bb15
  refine LW.mkIface rfl FactsJoin2.concrete97 rfl ?_
  refine LW.assign rfl rfl ?_
  refine LW.nil ?_
  refine NW.then_ ?_
  refine CW.ret ?_
  refine NW.ret1 rfl rfl ⟨_, ⟨bb15, rfl, rfl⟩, ?_⟩
  exact Sub.one (by repeat (first | exact Take.head _ _ | apply Take.tail))
theorem failJ_Code (p : Nat) (s : List UInt8) (q : Nat) (sl : Value) (ch : List Row) (c d : Int) (ho : OwnS 80 1 sl 2 [eno c, eno d] ch) (h0 : 0 < B) (hg : W.cell? ⟨0, 0, none⟩ = some (rty 80)) :
    Spec Tryd.prog W B 47 [atV p] (ajR p s q sl ch) (fun r post => r = .int .i64 c ∧ post = ajR p s q sl ch) := by
  refine Spec.enter ([ajR p s q sl ch]) Tryd.func47 rfl Tryd.ntmps47 rfl (by first | rfl | simp) (fun w0 => ?_)
  refine CW.seq ?_
  refine CW.region ?_
  refine LW.assign rfl rfl ?_
  refine LW.nil ?_
  refine NW.then_ ?_
  refine CW.seq ?_
  refine CW.seq ?_
  refine CW.region ?_
  refine LW.move rfl rfl ?_
  refine LW.ifaceNil _ rfl Tryd.underlying80 (.inr ⟨⟨_, _, rfl⟩, rfl⟩) rfl ?_
  refine LW.nil ?_
  refine NW.then_ ?_
  refine CW.cond_false rfl ?_
  refine CW.skip ?_
  refine NW.then_ ?_
  refine CW.seq ?_
  refine CW.region ?_
  refine LW.alloc FactsJoin2.zero28 rfl ?_
  intro ba3
  refine LW.nil ?_
  refine NW.then_ ?_
  refine CW.seq ?_
  refine CW.seq ?_
  refine CW.region ?_
  refine LW.move rfl rfl ?_
  refine LW.mkIface rfl FactsJoin2.concrete101 rfl ?_
  refine LW.call (As_join W B p s q sl ch c d ho ba3 (.int .i64 0) h0 hg) Tryd.func56 rfl FactsJoin2.fname56 ⟨rfl, rfl, trivial⟩ (Take.both (by repeat (first | exact Take.head _ _ | apply Take.tail)) (by repeat (first | exact Take.head _ _ | apply Take.tail))) rfl ?_
  rintro _ _ ⟨rfl, rfl⟩; refine LW.split2 ?_
  refine LW.not (false) rfl (rfl) rfl ?_
  refine LW.nil ?_
  refine NW.then_ ?_
  refine CW.cond_false rfl ?_
  refine CW.skip ?_
  refine NW.then_ ?_
  refine CW.seq ?_
  refine CW.region ?_
  refine LW.load rfl (by repeat (first | exact Take.head _ _ | apply Take.tail)) rfl FactsJoin2.one28 rfl ?_
  refine LW.assign rfl rfl ?_
  refine LW.nil ?_
  refine NW.then_ ?_
  refine CW.ret ?_
  refine NW.ret1 rfl rfl ⟨_, ⟨rfl, rfl⟩, ?_⟩
  exact Sub.one (by repeat (first | exact Take.head _ _ | apply Take.tail))
theorem failJ_Is (p : Nat) (s : List UInt8) (q : Nat) (sl : Value) (ch : List Row) (c d c2 : Int) (ho : OwnS 80 1 sl 2 [eno c, eno d] ch) (h2 : c2 ≠ 0) :
    Spec Tryd.prog W B 50 [atV p, .int .i64 c2] (ajR p s q sl ch) (fun r post => r = .bool (c == c2 || d == c2) ∧ post = ajR p s q sl ch) := by
  refine Spec.enter ([ajR p s q sl ch]) Tryd.func50 rfl Tryd.ntmps50 rfl (by first | rfl | simp) (fun w0 => ?_)
  refine CW.seq ?_
  refine CW.region ?_
  refine LW.assign rfl rfl ?_
  refine LW.nil ?_
  refine NW.then_ ?_
  refine CW.seq ?_
  refine CW.seq ?_
  refine CW.region ?_
  refine LW.move rfl rfl ?_
  refine LW.eql false rfl rfl (beq_eq_false_iff_ne.2 (by omega)) rfl ?_
  refine LW.nil ?_
  refine NW.then_ ?_
  refine CW.cond_false rfl ?_
  refine CW.skip ?_
  refine NW.then_ ?_
  refine CW.seq ?_
  refine CW.region ?_
  refine LW.move rfl rfl ?_
  refine LW.move rfl rfl ?_
  refine LW.mkIface rfl FactsJoin2.concrete28 rfl ?_
  refine LW.call (Is_join W B p s q sl ch c d c2 ho) Tryd.func57 rfl FactsJoin2.fname57 ⟨rfl, rfl, trivial⟩ ((by repeat (first | exact Take.head _ _ | apply Take.tail))) rfl ?_
  rintro _ _ ⟨rfl, rfl⟩
  refine LW.assign rfl rfl ?_
  refine LW.nil ?_
  refine NW.then_ ?_
  refine CW.ret ?_
  refine NW.ret1 rfl rfl ⟨_, ⟨rfl, rfl⟩, ?_⟩
  exact Sub.one (by repeat (first | exact Take.head _ _ | apply Take.tail))
theorem errorsN_Is (c2 : Int) : Spec Tryd.prog W B 57 [.nilIface, eno c2] [] (fun r post => r = .bool false ∧ post = []) := by
  refine Spec.enter ([]) Tryd.func57 rfl Tryd.ntmps57 rfl (by first | rfl | simp) (fun w0 => ?_)
  refine CW.seq ?_
  refine CW.region ?_
  refine LW.assign rfl rfl ?_
  refine LW.nil ?_
  refine NW.then_ ?_
  refine CW.seq ?_
  refine CW.seq ?_
  refine CW.region ?_
  refine LW.move rfl rfl ?_
  refine LW.ifaceNil _ rfl Tryd.underlying80 (.inl ⟨rfl, rfl⟩) rfl ?_
  refine LW.move rfl rfl ?_
  refine LW.off 8 rfl rfl rfl rfl ?_
  refine LW.off 8 rfl rfl rfl rfl ?_
  refine LW.pickT rfl rfl rfl ?_
  refine LW.nil ?_
  refine NW.then_ ?_
  refine CW.cond_true rfl ?_
  refine CW.seq ?_
  refine CW.region ?_
  refine LW.move rfl rfl ?_
  refine LW.move rfl rfl ?_
  refine LW.val (.bool false) rfl (fun a w hf _ => by have e1 := hf.eval (x := .tmp 12) (v := .nilIface) rfl; have e2 := hf.eval (x := .tmp 13) (v := eno c2) rfl; have hq : ∀ m, (Op.equalIn (m + 1) 80 .nilIface (eno c2)).run Tryd.prog w = .ok false w := (fun m => by simp [Op.equalIn, run_underlying Tryd.underlying80, eno]); simp [execOp, e1, e2, eno, binOp, Op.equal, Op.maxDepth, Result.andThen]; have := hq 9999; simp [eno] at this; simp [this, eqGuard]) ?_
  refine LW.assign rfl rfl ?_
  refine LW.nil ?_
  refine NW.then_ ?_
  refine CW.ret ?_
  refine NW.then_ret ?_
  refine NW.ret1 rfl rfl ⟨_, ⟨rfl, rfl⟩, ?_⟩
  exact Sub.nil _
theorem failN_Is (c2 : Int) (h2 : c2 ≠ 0) : Spec Tryd.prog W B 50 [.nilIface, .int .i64 c2] [] (fun r post => r = .bool false ∧ post = []) := by
  refine Spec.enter ([]) Tryd.func50 rfl Tryd.ntmps50 rfl (by first | rfl | simp) (fun w0 => ?_)
  refine CW.seq ?_
  refine CW.region ?_
  refine LW.assign rfl rfl ?_
  refine LW.nil ?_
  refine NW.then_ ?_
  refine CW.seq ?_
  refine CW.seq ?_
  refine CW.region ?_
  refine LW.move rfl rfl ?_
  refine LW.eql false rfl rfl (beq_eq_false_iff_ne.2 (by omega)) rfl ?_
  refine LW.nil ?_
  refine NW.then_ ?_
  refine CW.cond_false rfl ?_
  refine CW.skip ?_
  refine NW.then_ ?_
  refine CW.seq ?_
  refine CW.region ?_
  refine LW.move rfl rfl ?_
  refine LW.move rfl rfl ?_
  refine LW.mkIface rfl FactsJoin2.concrete28 rfl ?_
  refine LW.call (errorsN_Is W B c2) Tryd.func57 rfl FactsJoin2.fname57 ⟨rfl, rfl, trivial⟩ (Take.none _) rfl ?_
  rintro _ _ ⟨rfl, rfl⟩
  refine LW.assign rfl rfl ?_
  refine LW.nil ?_
  refine NW.then_ ?_
  refine CW.ret ?_
  refine NW.ret1 rfl rfl ⟨_, ⟨rfl, rfl⟩, ?_⟩
  exact Sub.nil _
theorem failN_Is0 : Spec Tryd.prog W B 50 [.nilIface, .int .i64 0] [] (fun r post => r = .bool true ∧ post = []) := by
  refine Spec.enter ([]) Tryd.func50 rfl Tryd.ntmps50 rfl (by first | rfl | simp) (fun w0 => ?_)
  refine CW.seq ?_
  refine CW.region ?_
  refine LW.assign rfl rfl ?_
  refine LW.nil ?_
  refine NW.then_ ?_
  refine CW.seq ?_
  refine CW.seq ?_
  refine CW.region ?_
  refine LW.move rfl rfl ?_
  refine LW.eql true rfl rfl (rfl) rfl ?_
  refine LW.nil ?_
  refine NW.then_ ?_
  refine CW.cond_true rfl ?_
  refine CW.seq ?_
  refine CW.region ?_
  refine LW.move rfl rfl ?_
  refine LW.ifaceNil _ rfl Tryd.underlying80 (.inl ⟨rfl, rfl⟩) rfl ?_
  refine LW.assign rfl rfl ?_
  refine LW.nil ?_
  refine NW.then_ ?_
  refine CW.ret ?_
  refine NW.then_ret ?_
  refine NW.ret1 rfl rfl ⟨_, ⟨rfl, rfl⟩, ?_⟩
  exact Sub.nil _
theorem failJ_Where (p : Nat) (s : List UInt8) (q : Nat) :
    Spec Tryd.prog W B 48 [atV p] [cr p 99 [strV s, joinV q]] (fun r post => ∃ ch', OwnS 9 1 r 1 [strV s] ch' ∧ post = ch' ++ [cr p 99 [strV s, joinV q]]) := by
  refine Spec.enter ([[cr p 99 [strV s, joinV q]]]) Tryd.func48 rfl Tryd.ntmps48 rfl (by first | rfl | simp) (fun w0 => ?_)
  refine CW.seq ?_
  refine CW.region ?_
  refine LW.assign rfl rfl ?_
  refine LW.nil ?_
  refine NW.then_ ?_
  refine CW.seq ?_
  refine CW.region ?_
  refine LW.assign rfl rfl ?_
  refine LW.nil ?_
  refine NW.then_ ?_
  refine CW.block ?_
  refine CW.loop (fun st : Bool × Value × List Row => [(0, if st.1 then atV p else joinV q), (3, st.2.1)]) (fun st => [st.2.2, [cr p 99 [strV s, joinV q]]]) (fun st => OwnS 9 1 st.2.1 (if st.1 then 0 else 1) (if st.1 then [] else [strV s]) st.2.2) (fun st => if st.1 then 1 else 0) (true, .slice none 0 0, []) ?st2_j ?st2_e ?st2_h ?st2_r
  case st2_j => exact OwnS.nil
  case st2_e => repeat (first | exact Env.Le.nil _ | refine Env.Le.cons rfl ?_)
  case st2_h => repeat (first | exact Sub.heap_nil _ | exact Sub.refl _ | refine Sub.heap_cons (by repeat (first | exact Take.head _ _ | apply Take.tail)) ?_)
  case st2_r =>
    rintro ⟨b, v, ch⟩ ho; dsimp only at ho
    refine CW.block ?_
    refine CW.seq ?_
    refine CW.region ?_
    cases b
    · refine LW.move rfl rfl ?_
      refine LW.tassert rfl (fun w => noAtJ _ _ w) rfl ?_
      refine LW.move rfl rfl ?_
      refine LW.extract rfl rfl rfl ?_
      refine LW.extract rfl rfl rfl ?_
      refine LW.assign rfl rfl ?_
      refine LW.assign rfl rfl ?_
      refine LW.nil ?_
      refine NW.then_ ?_
      refine CW.seq ?_
      refine CW.seq ?_
      refine CW.region ?_
      refine LW.move rfl rfl ?_
      refine LW.not _ rfl rfl rfl ?_
      refine LW.nil ?_
      refine NW.then_ ?_
      refine CW.cond_true rfl ?_
      refine CW.seq ?_
      refine CW.region ?_
      refine LW.move rfl rfl ?_
      refine LW.assign rfl rfl ?_
      refine LW.nil ?_
      refine NW.then_ ?_
      refine CW.ret ?_
      refine NW.then_ret ?_
      refine NW.block_ret ?_
      refine NW.then_ret ?_
      refine NW.block_ret ?_
      refine NW.ret1 rfl rfl ⟨_, ⟨ch, ho, rfl⟩, ?_⟩
      exact Sub.take (by repeat (first | exact Take.head _ _ | apply Take.tail)) (Sub.one (by repeat (first | exact Take.head _ _ | apply Take.tail)))
    · refine LW.move rfl rfl ?_
      refine LW.tassert rfl (fun w => atE _ _ w) rfl ?_
      refine LW.move rfl rfl ?_
      refine LW.extract rfl rfl rfl ?_
      refine LW.extract rfl rfl rfl ?_
      refine LW.assign rfl rfl ?_
      refine LW.assign rfl rfl ?_
      refine LW.nil ?_
      refine NW.then_ ?_
      refine CW.seq ?_
      refine CW.seq ?_
      refine CW.region ?_
      refine LW.move rfl rfl ?_
      refine LW.not _ rfl rfl rfl ?_
      refine LW.nil ?_
      refine NW.then_ ?_
      refine CW.cond_false rfl ?_
      refine CW.skip ?_
      refine NW.then_ ?_
      refine CW.drawH [cr p 99 [strV s, joinV q]] FactsJoin2.mixed ?_
      refine AW.take 0 rfl (by kernel_rfl) (by kernel_rfl) (by kernel_rfl) (by repeat (first | exact PO.body | refine PO.then_ ?_ | refine PO.block ?_ | refine PO.noGoto ?_)) (Yl.move rfl) (fun _ s => Held.of s (by repeat (first | exact Sub.nil _ | refine Sub.cons1 (by repeat (first | exact Take.head _ _ | apply Take.tail)) ?_))) rfl ?_
      refine AW.take 1 rfl (by kernel_rfl) (by kernel_rfl) (by kernel_rfl) (by repeat (first | exact PO.body | refine PO.then_ ?_ | refine PO.block ?_ | refine PO.noGoto ?_)) (Yl.move rfl) (fun _ s => Held.of s (by repeat (first | exact Sub.nil _ | refine Sub.cons1 (by repeat (first | exact Take.head _ _ | apply Take.tail)) ?_))) rfl ?_
      refine AW.take 2 rfl (by kernel_rfl) (by kernel_rfl) (by kernel_rfl) (by repeat (first | exact PO.body | refine PO.then_ ?_ | refine PO.block ?_ | refine PO.noGoto ?_)) (Yl.nilPtr rfl) (fun _ s => Held.of s (by repeat (first | exact Sub.nil _ | refine Sub.cons1 (by repeat (first | exact Take.head _ _ | apply Take.tail)) ?_))) rfl ?_
      refine AW.take 3 rfl (by kernel_rfl) (by kernel_rfl) (by kernel_rfl) (by repeat (first | exact PO.body | refine PO.then_ ?_ | refine PO.block ?_ | refine PO.noGoto ?_)) (Yl.fieldAddr _ rfl (fun _ => FactsJoin2.fa99_0 _ _ _)) (fun _ s => Held.of s (by repeat (first | exact Sub.nil _ | refine Sub.cons1 (by repeat (first | exact Take.head _ _ | apply Take.tail)) ?_))) rfl ?_
      refine AW.take 4 rfl (by kernel_rfl) (by kernel_rfl) (by kernel_rfl) (by repeat (first | exact PO.body | refine PO.then_ ?_ | refine PO.block ?_ | refine PO.noGoto ?_)) (Yl.load rfl (by repeat (first | exact List.Mem.head _ | refine List.Mem.tail _ ?_)) rfl FactsJoin2.one9) (fun _ s => Held.of s (by repeat (first | exact Sub.nil _ | refine Sub.cons1 (by repeat (first | exact Take.head _ _ | apply Take.tail)) ?_))) rfl ?_
      refine AW.take 7 rfl (by kernel_rfl) (by kernel_rfl) (by kernel_rfl) (by repeat (first | exact PO.body | refine PO.then_ ?_ | refine PO.block ?_ | refine PO.noGoto ?_)) (Yl.move rfl) (fun _ s => Held.of s (by repeat (first | exact Sub.nil _ | refine Sub.cons1 (by repeat (first | exact Take.head _ _ | apply Take.tail)) ?_))) rfl ?_
      refine AW.take 8 rfl (by kernel_rfl) (by kernel_rfl) (by kernel_rfl) (by repeat (first | exact PO.body | refine PO.then_ ?_ | refine PO.block ?_ | refine PO.noGoto ?_)) (Yl.nilPtr rfl) (fun _ s => Held.of s (by repeat (first | exact Sub.nil _ | refine Sub.cons1 (by repeat (first | exact Take.head _ _ | apply Take.tail)) ?_))) rfl ?_
      refine AW.take 9 rfl (by kernel_rfl) (by kernel_rfl) (by kernel_rfl) (by repeat (first | exact PO.body | refine PO.then_ ?_ | refine PO.block ?_ | refine PO.noGoto ?_)) (Yl.fieldAddr _ rfl (fun _ => FactsJoin2.fa99_1 _ _ _)) (fun _ s => Held.of s (by repeat (first | exact Sub.nil _ | refine Sub.cons1 (by repeat (first | exact Take.head _ _ | apply Take.tail)) ?_))) rfl ?_
      refine AW.take 10 rfl (by kernel_rfl) (by kernel_rfl) (by kernel_rfl) (by repeat (first | exact PO.body | refine PO.then_ ?_ | refine PO.block ?_ | refine PO.noGoto ?_)) (Yl.load rfl (by repeat (first | exact List.Mem.head _ | refine List.Mem.tail _ ?_)) rfl FactsJoin2.one80) (fun _ s => Held.of s (by repeat (first | exact Sub.nil _ | refine Sub.cons1 (by repeat (first | exact Take.head _ _ | apply Take.tail)) ?_))) rfl ?_
      refine AW.act 5 (by kernel_rfl) rfl ?_
      refine LW.buildSlice (vs := [_]) ⟨rfl, trivial⟩ rfl (by intro v hv; simp at hv; subst hv; rfl) Tryd.underlying37 FactsJoin2.info9 rfl (by decide) (by decide) rfl ?_
      intro bs19
      refine LW.nil ?_
      refine AW.back (fun _ s => Held.of s (by repeat (first | exact Sub.nil _ | refine Sub.cons1 (by repeat (first | exact Take.head _ _ | apply Take.tail)) ?_))) ?_
      refine AW.act 6 (by kernel_rfl) rfl ?_
      refine LW.append ([strV s]) rfl rfl Tryd.underlying37 Tryd.underlying37 (.inr ⟨_, rfl⟩) FactsJoin2.info9 rfl ((show OwnS 9 1 v 0 [] ch from ho)) (by repeat (first | exact Take.head _ _ | apply Take.tail)) (fun _ => lenOf_slice _ _ _ _) (first_rd (RdAt.row (by repeat (first | exact Take.head _ _ | apply Take.tail)) (fun j v hj => by rw [Nat.zero_add]; exact hj)) rfl (fun h => (by cases h))) (rfl) (by intro u hu; simp at hu; subst hu; rfl) (by omega) (by omega) rfl ?_
      intro v' ch' ho'
      refine LW.nil ?_
      refine AW.back (fun _ s => Held.of s (by repeat (first | exact Sub.nil _ | refine Sub.cons1 (by repeat (first | exact Take.head _ _ | apply Take.tail)) ?_))) ?_
      refine AW.take 11 rfl (by kernel_rfl) (by kernel_rfl) (by kernel_rfl) (by repeat (first | exact PO.body | refine PO.then_ ?_ | refine PO.block ?_ | refine PO.noGoto ?_)) (Yl.assign rfl) (fun _ s => Held.of s (by repeat (first | exact Sub.nil _ | refine Sub.cons1 (by repeat (first | exact Take.head _ _ | apply Take.tail)) ?_))) rfl ?_
      refine AW.take 12 rfl (by kernel_rfl) (by kernel_rfl) (by kernel_rfl) (by repeat (first | exact PO.body | refine PO.then_ ?_ | refine PO.block ?_ | refine PO.noGoto ?_)) (Yl.assign rfl) (fun _ s => Held.of s (by repeat (first | exact Sub.nil _ | refine Sub.cons1 (by repeat (first | exact Take.head _ _ | apply Take.tail)) ?_))) rfl ?_
      refine AW.done (by kernel_rfl) ?_
      refine NW.block ?_
      refine NW.meet ((false, v', ch')) ?j1 ?e1 ?h1
      case j1 => exact ⟨ho', by exact Nat.zero_lt_one⟩
      case e1 => repeat (first | exact Env.Le.nil _ | refine Env.Le.cons rfl ?_)
      case h1 => repeat (first | exact Sub.heap_nil _ | exact Sub.refl _ | refine Sub.heap_cons (by repeat (first | exact Take.head _ _ | apply Take.tail)) ?_)
end
end Go.Proofs.YtmgpldgldgdenaaDoor
