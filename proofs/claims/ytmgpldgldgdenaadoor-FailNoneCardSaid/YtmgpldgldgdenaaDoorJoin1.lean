/-
  TWO ERRORS IN ONE (errors.Join), and errors.As, errors.Is, package fail over it: contracts.
-/
import Derived.Test.YtmgpldgldgdenaaDoorFail2
import Derived.Test.YtmgpldgldgdenaaDoorUndef
namespace Go.Proofs.YtmgpldgldgdenaaDoor
open Go.RowKit Go.Extern
namespace FactsJoin1
theorem concrete104 : Tryd.prog.concrete 104 = true := by kernel_rfl
theorem fa106_0 (b o : Nat) (w : World) : (Instr.fieldAt 106 (.pointer (some ⟨b, o, none⟩)) 0).run Tryd.prog w = .ok (.pointer (some ⟨b, o, none⟩)) w := by kernel_rfl
theorem fname61 : (Tryd.f61.name == "runtime.NumGoroutine") = false := by kernel_rfl
theorem fname85 : (Tryd.f85.name == "runtime.NumGoroutine") = false := by kernel_rfl
theorem fname87 : (Tryd.f87.name == "runtime.NumGoroutine") = false := by kernel_rfl
theorem info80 : (Tryd.prog.info? 80).map (fun i => (i.zero, i.size, i.bytes)) = some (some (.nilIface), 1, 16) := by kernel_rfl
theorem ixs103 : (Tryd.prog.info? 80).map (·.size) = some 1 := by kernel_rfl
theorem one103 : oneB Tryd.prog 103 = true := by kernel_rfl
theorem one80 : oneB Tryd.prog 80 = true := by kernel_rfl
theorem sz103 : (Tryd.prog.info? 103).map (·.size) = some 1 := by kernel_rfl
theorem szt111 : (Tryd.prog.info? 111).map (·.size) = some 3 := by kernel_rfl
end FactsJoin1
def joinV (q : Nat) : Value := .iface 104 (.pointer (some ⟨q, 0, none⟩))
theorem typeOfJ (q : Nat) (w : World) : (ReflectliteType.typeOf #[joinV q]).run Tryd.prog w = .ok (rty 104) w := by kernel_rfl
theorem assJ (w : World) : (ReflectliteType.relation "AssignableTo" ReflectliteType.assignableTo #[.agg #[hd 104], rty 28]).run Tryd.prog w = .ok (.bool false) w := by kernel_rfl
theorem mUnwrapJ (p : Nat) : Meth Tryd.prog 104 (.pointer (some ⟨p, 0, none⟩)) "Unwrap" 87 (.pointer (some ⟨p, 0, none⟩)) := by intro w; kernel_rfl
theorem noAsJ (v : Value) (xT : Nat) (w : World) : (Instr.typeAssert (.iface 104 v) xT 127 true).run Tryd.prog w = .ok (.tuple #[.nilIface, .bool false]) w := run_typeAssert_lacksB Tryd.underlying127 (by kernel_rfl) (by kernel_rfl) v xT w
theorem noIsJ (v : Value) (xT : Nat) (w : World) : (Instr.typeAssert (.iface 104 v) xT 134 true).run Tryd.prog w = .ok (.tuple #[.nilIface, .bool false]) w := run_typeAssert_lacksB Tryd.underlying134 (by kernel_rfl) (by kernel_rfl) v xT w
theorem noUnwJ (v : Value) (xT : Nat) (w : World) : (Instr.typeAssert (.iface 104 v) xT 130 true).run Tryd.prog w = .ok (.tuple #[.nilIface, .bool false]) w := run_typeAssert_lacksB Tryd.underlying130 (by kernel_rfl) (by kernel_rfl) v xT w
theorem unwsJ (v : Value) (xT : Nat) (w : World) : (Instr.typeAssert (.iface 104 v) xT 132 true).run Tryd.prog w = .ok (.tuple #[.iface 104 v, .bool true]) w := run_typeAssert_hasB Tryd.underlying132 (by kernel_rfl) v xT w
theorem noAtJ (v : Value) (xT : Nat) (w : World) : (Instr.typeAssert (.iface 104 v) xT 97 true).run Tryd.prog w = .ok (.tuple #[.pointer none, .bool false]) w := run_typeAssert_other Tryd.underlying97 rfl (by decide) (by kernel_rfl) w
section
variable (W : World) (B : Nat)
theorem join_Unwrap (q : Nat) (v : Value) : Spec Tryd.prog W B 87 [.pointer (some ⟨q, 0, none⟩)] [cr q 106 [v]] (fun r post => r = v ∧ post = [cr q 106 [v]]) := by
  refine Spec.enter ([[cr q 106 [v]]]) Tryd.func87 rfl Tryd.ntmps87 rfl (by first | rfl | simp) (fun w0 => ?_)
  refine CW.seq ?_
  refine CW.region ?_
  refine LW.assign rfl rfl ?_
  refine LW.nil ?_
  refine NW.then_ ?_
  refine CW.seq ?_
  refine CW.region ?_
  refine LW.move rfl rfl ?_
  refine LW.nilPtr rfl rfl ?_
  refine LW.fieldAddr _ rfl (fun _ => FactsJoin1.fa106_0 _ _ _) rfl ?_
  refine LW.load rfl (by repeat (first | exact Take.head _ _ | apply Take.tail)) rfl FactsJoin1.one103 rfl ?_
  refine LW.assign rfl rfl ?_
  refine LW.nil ?_
  refine NW.then_ ?_
  refine CW.ret ?_
  refine NW.ret1 rfl rfl ⟨_, ⟨rfl, rfl⟩, ?_⟩
  exact Sub.one (by repeat (first | exact Take.head _ _ | apply Take.tail))

theorem errors_Join (c d : Int) (b cp : Nat) : Spec Tryd.prog W B 49 [.slice (some ⟨b, 0, none⟩) 2 cp] [cr b 80 [eno c, eno d]]
    (fun r post => ∃ q v ch, r = joinV q ∧ OwnS 80 1 v 2 [eno c, eno d] ch ∧ post = [cr q 106 [v]] ++ ch) := by
  have hget : ∀ i, i < 2 → [eno c, eno d][i]? = some (eno ([c, d].getD i 0)) := fun i hi => by
    have : i = 0 ∨ i = 1 := by omega
    rcases this with rfl | rfl <;> rfl
  have htk : ∀ i, i < 2 → [eno c, eno d].take (i + 1) = [eno c, eno d].take i ++ [eno ([c, d].getD i 0)] := fun i hi => by
    have : i = 0 ∨ i = 1 := by omega
    rcases this with rfl | rfl <;> rfl
  refine Spec.enter ([[cr b 80 [eno c, eno d]]]) Tryd.func49 rfl Tryd.ntmps49 rfl (by first | rfl | simp) (fun w0 => ?_)
  refine CW.seq ?_
  refine CW.region ?_
  refine LW.assign rfl rfl ?_
  refine LW.nil ?_
  refine NW.then_ ?_
  refine CW.seq ?_
  refine CW.region ?_
  refine LW.assign rfl rfl ?_
  refine LW.nil ?_
  refine NW.then_ ?_
  refine CW.seq ?_
  refine CW.seq ?_
  refine CW.region ?_
  refine LW.move rfl rfl ?_
  refine LW.lenSlice rfl Tryd.underlying103 rfl ?_
  refine LW.move rfl rfl ?_
  refine LW.nil ?_
  refine NW.then_ ?_
  refine CW.block ?_
  refine CW.loop (fun i : Nat => [(11, .int .i64 (i : Int)), (10, .int .i64 2), (9, .slice (some ⟨b, 0, none⟩) 2 cp), (3, .int .i64 (i : Int)), (0, .slice (some ⟨b, 0, none⟩) 2 cp)]) (fun _ => [[cr b 80 [eno c, eno d]]]) (fun i => i ≤ 2) (fun i => 2 - i) 0 ?st3_j ?st3_e ?st3_h ?st3_r
  case st3_j => exact Nat.zero_le _
  case st3_e => repeat (first | exact Env.Le.nil _ | refine Env.Le.cons rfl ?_)
  case st3_h => repeat (first | exact Sub.heap_nil _ | exact Sub.refl _ | refine Sub.heap_cons (by repeat (first | exact Take.head _ _ | apply Take.tail)) ?_)
  case st3_r =>
    intro i hi
    refine CW.seq ?_
    refine CW.region ?_
    refine LW.lss (decide ((i : Int) < 2)) rfl rfl (rfl) rfl ?_
    refine LW.nil ?_
    refine NW.then_ ?_
    refine CW.seq ?_
    refine CW.cond rfl (fun hc12 => ?_) (fun hc12 => ?_)
    · have hi2 : i < 2 := by have := of_decide_eq_true hc12; omega
      refine CW.skip ?_
      refine NW.then_ ?_
      refine CW.seq ?_
      refine CW.block ?_
      refine CW.seq ?_
      refine CW.region ?_
      refine LW.indexAddr (i) rfl rfl Tryd.underlying103 FactsJoin1.ixs103 (by omega) (by omega) (by simp) rfl ?_
      refine LW.load (v := eno ([c, d].getD i 0)) rfl (by repeat (first | exact Take.head _ _ | apply Take.tail)) (hget i hi2) FactsJoin1.one80 rfl ?_
      refine LW.assign rfl rfl ?_
      refine LW.nil ?_
      refine NW.then_ ?_
      refine CW.seq ?_
      refine CW.region ?_
      refine LW.move rfl rfl ?_
      refine LW.ifaceNotNil _ rfl Tryd.underlying80 (.inr ⟨⟨_, _, rfl⟩, rfl⟩) rfl ?_
      refine LW.nil ?_
      refine NW.then_ ?_
      refine CW.cond_true rfl ?_
      refine CW.region ?_
      refine LW.move rfl rfl ?_
      refine LW.add ((i + 1 : Int)) rfl rfl (by first | rfl | exact wr64 (by omega) (by omega) (by omega)) rfl ?_
      refine LW.assign rfl rfl ?_
      refine LW.nil ?_
      refine NW.block ?_
      refine NW.then_ ?_
      refine CW.region ?_
      refine LW.add ((i + 1 : Int)) rfl rfl (by first | rfl | exact wr64 (by omega) (by omega) (by omega)) rfl ?_
      refine LW.move rfl rfl ?_
      refine LW.nil ?_
      refine NW.meet (i + 1) ?j1 ?e1 ?h1
      case j1 => exact ⟨hi2, by omega⟩
      case e1 => repeat (first | exact Env.Le.nil _ | refine Env.Le.cons rfl ?_)
      case h1 => repeat (first | exact Sub.heap_nil _ | exact Sub.refl _ | refine Sub.heap_cons (by repeat (first | exact Take.head _ _ | apply Take.tail)) ?_)
    · have hi2 : i = 2 := by have := of_decide_eq_false hc12; omega
      subst hi2
      refine CW.exit ?_
      refine NW.then_exit ?_
      refine NW.then_exit ?_
      refine NW.block_exit ?_
      refine NW.then_ ?_
      refine CW.seq ?_
      refine CW.seq ?_
      refine CW.region ?_
      refine LW.move rfl rfl ?_
      refine LW.eql false rfl rfl (rfl) rfl ?_
      refine LW.nil ?_
      refine NW.then_ ?_
      refine CW.cond_false rfl ?_
      refine CW.skip ?_
      refine NW.then_ ?_
      refine CW.seq ?_
      refine CW.region ?_
      refine LW.move rfl rfl ?_
      refine LW.make (0) (2) ([.nilIface, .nilIface]) rfl rfl (by first | rfl | omega) (by first | rfl | omega) Tryd.underlying103 FactsJoin1.info80 (by omega) (by omega) (by omega) ((madeCells_rep _ .nilIface 2 (by intro x hx; simp [Value.cells] at hx; exact hx) (by simp [Value.cells]))) rfl ?_
      intro bm23
      refine LW.build (vs := [_]) (#[.slice (some ⟨bm23, 0, none⟩) 0 2]) ⟨rfl, trivial⟩ (by kernel_rfl) rfl ?_
      refine LW.box rfl rfl ?_
      intro bb25
      refine LW.assign rfl rfl ?_
      refine LW.nil ?_
      refine NW.then_ ?_
      refine CW.seq ?_
      refine CW.seq ?_
      refine CW.region ?_
      refine LW.move rfl rfl ?_
      refine LW.lenSlice rfl Tryd.underlying103 rfl ?_
      refine LW.move rfl rfl ?_
      refine LW.nil ?_
      refine NW.then_ ?_
      refine CW.block ?_
      refine CW.loop (fun st : Nat × Value × List Row => [(28, .int .i64 (st.1 : Int)), (27, .int .i64 2), (26, .slice (some ⟨b, 0, none⟩) 2 cp), (6, .pointer (some ⟨bb25, 0, none⟩))]) (fun st => [[cr bb25 106 [st.2.1]], [cr b 80 [eno c, eno d]], st.2.2]) (fun st => st.1 ≤ 2 ∧ OwnS 80 1 st.2.1 st.1 ([eno c, eno d].take st.1) st.2.2) (fun st => 2 - st.1) (0, .slice (some ⟨bm23, 0, none⟩) 0 2, [cr bm23 80 [.nilIface, .nilIface]]) ?st12_j ?st12_e ?st12_h ?st12_r
      case st12_j => exact ⟨Nat.zero_le _, .inr ⟨bm23, 2, [.nilIface, .nilIface], rfl, rfl, by omega, rfl, rfl⟩⟩
      case st12_e => repeat (first | exact Env.Le.nil _ | refine Env.Le.cons rfl ?_)
      case st12_h => repeat (first | exact Sub.heap_nil _ | exact Sub.refl _ | refine Sub.heap_cons (by repeat (first | exact Take.head _ _ | apply Take.tail)) ?_)
      case st12_r =>
        rintro ⟨i, v, ch⟩ ⟨hi, ho⟩; dsimp only at hi ho
        refine CW.seq ?_
        refine CW.region ?_
        refine LW.lss (decide ((i : Int) < 2)) rfl rfl (rfl) rfl ?_
        refine LW.nil ?_
        refine NW.then_ ?_
        refine CW.seq ?_
        refine CW.cond rfl (fun hc29 => ?_) (fun hc29 => ?_)
        · have hi2 : i < 2 := by have := of_decide_eq_true hc29; omega
          refine CW.skip ?_
          refine NW.then_ ?_
          refine CW.seq ?_
          refine CW.block ?_
          refine CW.seq ?_
          refine CW.region ?_
          refine LW.indexAddr (i) rfl rfl Tryd.underlying103 FactsJoin1.ixs103 (by omega) (by omega) (by simp) rfl ?_
          refine LW.load (v := eno ([c, d].getD i 0)) rfl (by repeat (first | exact Take.head _ _ | apply Take.tail)) (hget i hi2) FactsJoin1.one80 rfl ?_
          refine LW.assign rfl rfl ?_
          refine LW.nil ?_
          refine NW.then_ ?_
          refine CW.seq ?_
          refine CW.region ?_
          refine LW.move rfl rfl ?_
          refine LW.ifaceNotNil _ rfl Tryd.underlying80 (.inr ⟨⟨_, _, rfl⟩, rfl⟩) rfl ?_
          refine LW.nil ?_
          refine NW.then_ ?_
          refine CW.cond_true rfl ?_
          refine CW.region ?_
          refine LW.move rfl rfl ?_
          refine LW.move rfl rfl ?_
          refine LW.nilPtr rfl rfl ?_
          refine LW.fieldAddr _ rfl (fun _ => FactsJoin1.fa106_0 _ _ _) rfl ?_
          refine LW.load rfl (by repeat (first | exact Take.head _ _ | apply Take.tail)) rfl FactsJoin1.one103 rfl ?_
          refine LW.move rfl rfl ?_
          refine LW.buildSlice (vs := [_]) ⟨rfl, trivial⟩ rfl (by intro v hv; simp at hv; subst hv; rfl) Tryd.underlying103 FactsJoin1.info80 rfl (by decide) (by decide) rfl ?_
          intro bs40
          refine LW.append ([eno ([c, d].getD i 0)]) rfl rfl Tryd.underlying103 Tryd.underlying103 (.inr ⟨_, rfl⟩) FactsJoin1.info80 rfl (ho) (by repeat (first | exact Take.head _ _ | apply Take.tail)) (fun _ => lenOf_slice _ _ _ _) (first_rd (RdAt.row (by repeat (first | exact Take.head _ _ | apply Take.tail)) (fun j v hj => by rw [Nat.zero_add]; exact hj)) rfl (fun h => (by cases h))) (rfl) (by intro u hu; simp at hu; subst hu; rfl) (by omega) (by omega) rfl ?_
          intro v' ch' ho'; have hv' := (by obtain ⟨A9, c9, rfl, _, _⟩ := ho'.val; rfl : v'.oneCell' = true)
          refine LW.nilPtr rfl rfl ?_
          refine LW.fieldAddr _ rfl (fun _ => FactsJoin1.fa106_0 _ _ _) rfl ?_
          refine LW.store rfl rfl (by repeat (first | exact Take.head _ _ | apply Take.tail)) (by exact Nat.one_pos) FactsJoin1.sz103 (hv') ?_
          refine LW.nil ?_
          refine NW.block ?_
          refine NW.then_ ?_
          refine CW.region ?_
          refine LW.add ((i + 1 : Int)) rfl rfl (by first | rfl | exact wr64 (by omega) (by omega) (by omega)) rfl ?_
          refine LW.move rfl rfl ?_
          refine LW.nil ?_
          refine NW.meet ((i + 1, v', ch')) ?j2 ?e2 ?h2
          case j2 => exact ⟨⟨hi2, by rw [htk i hi2]; exact ho'⟩, by dsimp only; omega⟩
          case e2 => repeat (first | exact Env.Le.nil _ | refine Env.Le.cons rfl ?_)
          case h2 => repeat (first | exact Sub.heap_nil _ | exact Sub.refl _ | refine Sub.heap_cons (by repeat (first | exact Take.head _ _ | apply Take.tail)) ?_)
        · have hi2 : i = 2 := by have := of_decide_eq_false hc29; omega
          subst hi2
          refine CW.exit ?_
          refine NW.then_exit ?_
          refine NW.then_exit ?_
          refine NW.block_exit ?_
          refine NW.then_ ?_
          refine CW.seq ?_
          refine CW.region ?_
          refine LW.move rfl rfl ?_
          refine LW.mkIface rfl FactsJoin1.concrete104 rfl ?_
          refine LW.assign rfl rfl ?_
          refine LW.nil ?_
          refine NW.then_ ?_
          refine CW.ret ?_
          refine NW.ret1 rfl rfl ⟨_, ⟨bb25, v, ch, rfl, ho, rfl⟩, ?_⟩
          exact Sub.take (p := [_]) (by repeat (first | exact Take.head _ _ | apply Take.tail)) (Sub.one (by repeat (first | exact Take.head _ _ | apply Take.tail)))

theorem as_join (p : Nat) (s : List UInt8) (q : Nat) (sl : Value) (ch : List Row) (c d : Int) (ho : OwnS 80 1 sl 2 [eno c, eno d] ch) (t a : Nat) (old : Value) :
    Spec Tryd.prog W B 61 [.iface 97 (.pointer (some ⟨p, 0, none⟩)), .iface 101 (.pointer (some ⟨t, 0, none⟩)), rval 101 a 150, rty 28]
      ([cr t 28 [old]] ++ ([cr a 101 [.pointer (some ⟨t, 0, none⟩)]] ++ ([cr p 99 [strV s, joinV q]] ++ ([cr q 106 [sl]] ++ ch))))
      (fun r post => r = .bool true ∧ post = [cr t 28 [.int .i64 c]] ++ ([cr p 99 [strV s, joinV q]] ++ ([cr q 106 [sl]] ++ ch))) := by
  obtain ⟨A2, cp2, rfl, hA2, hc2⟩ := ho.val
  obtain ⟨a2, rfl⟩ : ∃ x, A2 = some x := by
    cases A2 with
    | none => exact absurd (hA2 rfl) (by decide)
    | some x => exact ⟨x, rfl⟩
  refine Spec.enter ([[cr t 28 [old]], [cr a 101 [.pointer (some ⟨t, 0, none⟩)]], [cr p 99 [strV s, joinV q]], [cr q 106 [.slice (some a2) 2 cp2]], ch]) Tryd.func61 rfl Tryd.ntmps61 rfl (by first | rfl | simp) (fun w0 => ?_)
  refine CW.seq ?_
  refine CW.region ?_
  refine LW.box rfl rfl ?_
  intro bb6
  refine LW.assign rfl rfl ?_
  refine LW.nil ?_
  refine NW.then_ ?_
  refine CW.block ?_
  refine CW.loop (fun b : Bool => [(0, if b then .iface 97 (.pointer (some ⟨p, 0, none⟩)) else joinV q), (1, .iface 101 (.pointer (some ⟨t, 0, none⟩))), (3, rty 28), (6, .pointer (some ⟨bb6, 0, none⟩))]) (fun _ => [[cr bb6 111 [hd 101, .pointer (some ⟨a, 0, none⟩), .int .u64 150]], [cr t 28 [old]], [cr a 101 [.pointer (some ⟨t, 0, none⟩)]], [cr p 99 [strV s, joinV q]], [cr q 106 [.slice (some a2) 2 cp2]], ch]) (fun _ => True) (fun b => if b then 1 else 0) true ?st1_j ?st1_e ?st1_h ?st1_r
  case st1_j => exact trivial
  case st1_e => repeat (first | exact Env.Le.nil _ | refine Env.Le.cons rfl ?_)
  case st1_h => repeat (first | exact Sub.heap_nil _ | exact Sub.refl _ | refine Sub.heap_cons (by repeat (first | exact Take.head _ _ | apply Take.tail)) ?_)
  case st1_r =>
    rintro b _
    refine CW.block ?_
    refine CW.seq ?_
    refine CW.seq ?_
    refine CW.region ?_
    cases b
    · refine LW.move rfl rfl ?_
      refine LW.ext (args := [joinV q]) (rty 104) xTypeOf ⟨rfl, trivial⟩ (fun w _ => typeOfJ q w) rfl ?_
      refine LW.move rfl rfl ?_
      refine LW.invExt (args := [rty 28]) (.bool false) rfl (mAss _) xAss ⟨rfl, trivial⟩ (fun w _ => assJ w) rfl ?_
      refine LW.nil ?_
      refine NW.then_ ?_
      refine CW.cond_false rfl ?_
      refine CW.skip ?_
      refine NW.then_ ?_
      refine CW.seq ?_
      refine CW.seq ?_
      refine CW.region ?_
      refine LW.move rfl rfl ?_
      refine LW.tassert rfl (fun w => noAsJ _ _ w) rfl ?_
      refine LW.move rfl rfl ?_
      refine LW.extract rfl rfl rfl ?_
      refine LW.extract rfl rfl rfl ?_
      refine LW.assign rfl rfl ?_
      refine LW.assign rfl rfl ?_
      refine LW.nil ?_
      refine NW.then_ ?_
      refine CW.seq ?_
      refine CW.region ?_
      refine LW.move rfl rfl ?_
      refine LW.move rfl rfl ?_
      refine LW.off 31 rfl rfl rfl rfl ?_
      refine LW.off 31 rfl rfl rfl rfl ?_
      refine LW.off 31 rfl rfl rfl rfl ?_
      refine LW.pickF rfl rfl rfl ?_
      refine LW.nil ?_
      refine NW.then_ ?_
      refine CW.cond_false rfl ?_
      refine CW.skip ?_
      refine NW.then_ ?_
      refine CW.seq ?_
      refine CW.region ?_
      refine LW.move rfl rfl ?_
      refine LW.nil ?_
      refine NW.then_ ?_
      refine CW.block ?_
      refine CW.seq ?_
      refine CW.region ?_
      refine LW.tassert rfl (fun w => noUnwJ _ _ w) rfl ?_
      refine LW.extract rfl rfl rfl ?_
      refine LW.extract rfl rfl rfl ?_
      refine LW.nil ?_
      refine NW.then_ ?_
      refine CW.cond_false rfl ?_
      refine CW.seq ?_
      refine CW.region ?_
      refine LW.tassert rfl (fun w => unwsJ _ _ w) rfl ?_
      refine LW.extract rfl rfl rfl ?_
      refine LW.extract rfl rfl rfl ?_
      refine LW.nil ?_
      refine NW.then_ ?_
      refine CW.cond_true rfl ?_
      refine CW.seq ?_
      refine CW.region ?_
      refine LW.assign rfl rfl ?_
      refine LW.nil ?_
      refine NW.then_ ?_
      refine CW.seq ?_
      refine CW.seq ?_
      refine CW.region ?_
      refine LW.move rfl rfl ?_
      refine LW.invCall (args := []) rfl (mUnwrapJ _) (join_Unwrap W B q (.slice (some a2) 2 cp2)) Tryd.func87 rfl FactsJoin1.fname87 trivial (by repeat (first | exact Take.head _ _ | apply Take.tail)) rfl ?_
      rintro _ _ ⟨rfl, rfl⟩
      refine LW.lenSlice rfl Tryd.underlying103 rfl ?_
      refine LW.move rfl rfl ?_
      refine LW.nil ?_
      refine NW.then_ ?_
      refine CW.block ?_
      refine CW.loop (fun _ : Unit => [(50, .int .i64 0), (49, .int .i64 2), (48, .slice (some a2) 2 cp2), (1, .iface 101 (.pointer (some ⟨t, 0, none⟩))), (3, rty 28), (6, .pointer (some ⟨bb6, 0, none⟩))]) (fun _ => [[cr bb6 111 [hd 101, .pointer (some ⟨a, 0, none⟩), .int .u64 150]], [cr t 28 [old]], [cr a 101 [.pointer (some ⟨t, 0, none⟩)]], [cr p 99 [strV s, joinV q]], [cr q 106 [.slice (some a2) 2 cp2]], ch]) (fun _ => True) (fun _ => 0) () ?st18_j ?st18_e ?st18_h ?st18_r
      case st18_j => exact trivial
      case st18_e => repeat (first | exact Env.Le.nil _ | refine Env.Le.cons rfl ?_)
      case st18_h => repeat (first | exact Sub.heap_nil _ | exact Sub.refl _ | refine Sub.heap_cons (by repeat (first | exact Take.head _ _ | apply Take.tail)) ?_)
      case st18_r =>
        rintro ⟨⟩ _
        refine CW.seq ?_
        refine CW.region ?_
        refine LW.lss true rfl rfl (rfl) rfl ?_
        refine LW.nil ?_
        refine NW.then_ ?_
        refine CW.seq ?_
        refine CW.cond_true rfl ?_
        refine CW.skip ?_
        refine NW.then_ ?_
        refine CW.seq ?_
        refine CW.block ?_
        refine CW.seq ?_
        refine CW.region ?_
        refine LW.indexAt rfl rfl Tryd.underlying103 FactsJoin1.ixs103 (by decide) (by decide) rfl ?_
        refine LW.loadRd (v := eno c) rfl (ho.src.rd (by repeat (first | exact Take.head _ _ | apply Take.tail))) (rfl) FactsJoin1.one80 rfl ?_
        refine LW.assign rfl rfl ?_
        refine LW.nil ?_
        refine NW.then_ ?_
        refine CW.seq ?_
        refine CW.seq ?_
        refine CW.region ?_
        refine LW.move rfl rfl ?_
        refine LW.ifaceNil _ rfl Tryd.underlying80 (.inr ⟨⟨_, _, rfl⟩, rfl⟩) rfl ?_
        refine LW.nil ?_
        refine NW.then_ ?_
        refine CW.cond_false rfl ?_
        refine CW.skip ?_
        refine NW.then_ ?_
        refine CW.seq ?_
        refine CW.region ?_
        refine LW.move rfl rfl ?_
        refine LW.move rfl rfl ?_
        refine LW.loadAgg ([hd 101, .pointer (some ⟨a, 0, none⟩), .int .u64 150]) rfl (by repeat (first | exact Take.head _ _ | apply Take.tail)) (by intro j v hj; rw [Nat.zero_add]; exact hj) Tryd.underlying111 rfl (by rw [FactsJoin1.szt111]; exact congrArg some (Eq.symm (rfl))) rfl ?_
        refine LW.move rfl rfl ?_
        refine LW.call (errors_as W B [] c t a old) Tryd.func61 rfl FactsJoin1.fname61 ⟨rfl, rfl, rfl, rfl, trivial⟩ (Take.both (by repeat (first | exact Take.head _ _ | apply Take.tail)) (Take.both (by repeat (first | exact Take.head _ _ | apply Take.tail)) (Take.none _))) rfl ?_
        rintro _ _ ⟨rfl, rfl⟩
        refine LW.nil ?_
        refine NW.then_ ?_
        refine CW.cond_true rfl ?_
        refine CW.seq ?_
        refine CW.region ?_
        refine LW.assign rfl rfl ?_
        refine LW.nil ?_
        refine NW.then_ ?_
        refine CW.ret ?_
        refine NW.block_ret ?_
        refine NW.then_ret ?_
        refine NW.then_ret ?_
        refine NW.block_ret ?_
        refine NW.then_ret ?_
        refine NW.block_ret ?_
        refine NW.block_ret ?_
        refine NW.then_ret ?_
        refine NW.block_ret ?_
        refine NW.ret1 rfl rfl ⟨_, ⟨rfl, rfl⟩, ?_⟩
        exact Sub.take (p := [_]) (by repeat (first | exact Take.head _ _ | apply Take.tail)) (Sub.take (p := [_]) (by repeat (first | exact Take.head _ _ | apply Take.tail)) (Sub.take (p := [_]) (by repeat (first | exact Take.head _ _ | apply Take.tail)) (Sub.one (by repeat (first | exact Take.head _ _ | apply Take.tail)))))
    · refine LW.move rfl rfl ?_
      refine LW.ext (args := [.iface 97 (.pointer (some ⟨p, 0, none⟩))]) (rty 97) xTypeOf ⟨rfl, trivial⟩ (fun w _ => typeOfA w _) rfl ?_
      refine LW.move rfl rfl ?_
      refine LW.invExt (args := [rty 28]) (.bool false) rfl (mAss _) xAss ⟨rfl, trivial⟩ (fun w _ => assA w) rfl ?_
      refine LW.nil ?_
      refine NW.then_ ?_
      refine CW.cond_false rfl ?_
      refine CW.skip ?_
      refine NW.then_ ?_
      refine CW.seq ?_
      refine CW.seq ?_
      refine CW.region ?_
      refine LW.move rfl rfl ?_
      refine LW.tassert rfl (fun w => noAsA _ _ w) rfl ?_
      refine LW.move rfl rfl ?_
      refine LW.extract rfl rfl rfl ?_
      refine LW.extract rfl rfl rfl ?_
      refine LW.assign rfl rfl ?_
      refine LW.assign rfl rfl ?_
      refine LW.nil ?_
      refine NW.then_ ?_
      refine CW.seq ?_
      refine CW.region ?_
      refine LW.move rfl rfl ?_
      refine LW.move rfl rfl ?_
      refine LW.off 31 rfl rfl rfl rfl ?_
      refine LW.off 31 rfl rfl rfl rfl ?_
      refine LW.off 31 rfl rfl rfl rfl ?_
      refine LW.pickF rfl rfl rfl ?_
      refine LW.nil ?_
      refine NW.then_ ?_
      refine CW.cond_false rfl ?_
      refine CW.skip ?_
      refine NW.then_ ?_
      refine CW.seq ?_
      refine CW.region ?_
      refine LW.move rfl rfl ?_
      refine LW.nil ?_
      refine NW.then_ ?_
      refine CW.block ?_
      refine CW.seq ?_
      refine CW.region ?_
      refine LW.tassert rfl (fun w => unwA _ _ w) rfl ?_
      refine LW.extract rfl rfl rfl ?_
      refine LW.extract rfl rfl rfl ?_
      refine LW.nil ?_
      refine NW.then_ ?_
      refine CW.cond_true rfl ?_
      refine CW.seq ?_
      refine CW.region ?_
      refine LW.assign rfl rfl ?_
      refine LW.nil ?_
      refine NW.then_ ?_
      refine CW.seq ?_
      refine CW.region ?_
      refine LW.move rfl rfl ?_
      refine LW.invCall (args := []) rfl (mUnwrap _) (at_Unwrap W B p s (joinV q) [cr p 99 [strV s, joinV q]] List.mem_cons_self) Tryd.func85 rfl FactsJoin1.fname85 trivial (by repeat (first | exact Take.head _ _ | apply Take.tail)) rfl ?_
      rintro _ _ ⟨rfl, rfl⟩
      refine LW.assign rfl rfl ?_
      refine LW.nil ?_
      refine NW.then_ ?_
      refine CW.seq ?_
      refine CW.region ?_
      refine LW.move rfl rfl ?_
      refine LW.ifaceNil _ rfl Tryd.underlying80 (.inr ⟨⟨_, _, rfl⟩, rfl⟩) rfl ?_
      refine LW.nil ?_
      refine NW.then_ ?_
      refine CW.cond_false rfl ?_
      refine CW.skip ?_
      refine NW.block ?_
      refine NW.block ?_
      refine NW.meet (false) ?j1 ?e1 ?h1
      case j1 => exact ⟨trivial, by decide⟩
      case e1 => repeat (first | exact Env.Le.nil _ | refine Env.Le.cons rfl ?_)
      case h1 => repeat (first | exact Sub.heap_nil _ | exact Sub.refl _ | refine Sub.heap_cons (by repeat (first | exact Take.head _ _ | apply Take.tail)) ?_)
end
end Go.Proofs.YtmgpldgldgdenaaDoor
