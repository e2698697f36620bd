/-
  THE DOCUMENT's DEVICE: made, down, spent, written: the contracts.
-/
import Derived.Test.YtmgpldgldgdenaaDoorRDevDef
import Derived.Test.YtmgpldgldgdenaaDoorProg
namespace Go.Proofs.YtmgpldgldgdenaaDoor
open Go.RowKit
namespace FactsRDev1
theorem fa71_0 (b o : Nat) (w : World) : (Instr.fieldAt 71 (.pointer (some ⟨b, o, none⟩)) 0).run Tryd.prog w = .ok (.pointer (some ⟨b, o, none⟩)) w := by kernel_rfl
theorem fa71_1 (b o : Nat) (w : World) : (Instr.fieldAt 71 (.pointer (some ⟨b, o, none⟩)) 1).run Tryd.prog w = .ok (.pointer (some ⟨b, o + 1, none⟩)) w := by kernel_rfl
theorem fa71_3 (b o : Nat) (w : World) : (Instr.fieldAt 71 (.pointer (some ⟨b, o, none⟩)) 3).run Tryd.prog w = .ok (.pointer (some ⟨b, o + 3, none⟩)) w := by kernel_rfl
theorem fa71_4 (b o : Nat) (w : World) : (Instr.fieldAt 71 (.pointer (some ⟨b, o, none⟩)) 4).run Tryd.prog w = .ok (.pointer (some ⟨b, o + 4, none⟩)) w := by kernel_rfl
theorem info26 : (Tryd.prog.info? 26).map (fun i => (i.zero, i.size, i.bytes)) = some (some (.slice none 0 0), 1, 24) := by kernel_rfl
theorem info4 : (Tryd.prog.info? 4).map (fun i => (i.zero, i.size, i.bytes)) = some (some (.bool false), 1, 1) := by kernel_rfl
theorem info5 : (Tryd.prog.info? 5).map (fun i => (i.zero, i.size, i.bytes)) = some (some (.int .u8 0), 1, 1) := by kernel_rfl
theorem mixed : Tryd.prog.follows .mixedOrders = true := by kernel_rfl
theorem one3 : oneB Tryd.prog 3 = true := by kernel_rfl
theorem one4 : oneB Tryd.prog 4 = true := by kernel_rfl
theorem one51 : oneB Tryd.prog 51 = true := by kernel_rfl
theorem sz51 : (Tryd.prog.info? 51).map (·.size) = some 1 := by kernel_rfl
end FactsRDev1
section
variable (W : World) (B : Nat)
theorem rdev_New (n : Nat) (h0 : 64 ≤ n) (h1 : n ≤ 4096) : Spec Tryd.prog W B 37 [.int .i64 (n : Int)] [] (fun v post => ∃ r : RD, v = .pointer (some ⟨r.q, 0, none⟩) ∧ r.Ok W B n (DevS.zero n) ∧ post = r.rows n (DevS.zero n)) := by
  have hz1 : ∀ m, (madeCells (Value.bool false).cells (m * 1)).toList = (List.replicate m false).map Value.bool := fun m => by
    rw [Nat.mul_one, List.map_replicate]
    exact madeCells_rep _ _ _ (by intro x hx; simp [Value.cells] at hx; exact hx) (by simp [Value.cells])
  have hz2 : (madeCells (Value.int .u8 0).cells (64 * 1)).toList = zSec.map u8v := by
    rw [Nat.mul_one, zSec, List.map_replicate]
    exact madeCells_rep _ _ _ (by intro x hx; simp [Value.cells] at hx; exact hx) (by simp [Value.cells])
  refine Spec.enter ([]) Tryd.func37 rfl Tryd.ntmps37 rfl (by first | rfl | simp) (fun w0 => ?_)
  refine CW.seq ?_
  refine CW.region ?_
  refine LW.assign rfl rfl ?_
  refine LW.nil ?_
  refine NW.then_ ?_
  refine CW.seq ?_
  refine CW.region ?_
  refine LW.move rfl rfl ?_
  refine LW.make (n) (n) ((List.replicate n false).map Value.bool) rfl rfl (by first | rfl | omega) (by first | rfl | omega) Tryd.underlying22 FactsRDev1.info4 (by omega) (by omega) (by omega) (hz1 n) rfl ?_
  intro bm6
  refine LW.build (vs := [_]) (#[.slice none 0 0, .slice none 0 0, .slice (some ⟨bm6, 0, none⟩) n n, .int .i64 0, .bool false]) ⟨rfl, trivial⟩ (by kernel_rfl) rfl ?_
  refine LW.box rfl rfl ?_
  intro bb8
  refine LW.assign rfl rfl ?_
  refine LW.nil ?_
  refine NW.then_ ?_
  refine CW.seq ?_
  refine CW.seq ?_
  refine CW.region ?_
  refine LW.assign rfl rfl ?_
  refine LW.nil ?_
  refine NW.then_ ?_
  refine CW.block ?_
  refine CW.loop (fun st : Nat × RD => [(4, .int .i64 (st.1 : Int)), (3, .pointer (some ⟨bb8, 0, none⟩)), (0, .int .i64 (n : Int))]) (fun st => [[cr bb8 71 [st.2.vN, st.2.vS, .slice (some ⟨bm6, 0, none⟩) n n, .int .i64 0, .bool false]], st.2.chN, st.2.chS, [cr bm6 4 ((List.replicate n false).map Value.bool)], st.2.ar]) (fun st => st.1 ≤ n ∧ OwnS 26 1 st.2.vN st.1 st.2.nv st.2.chN ∧ OwnS 26 1 st.2.vS st.1 st.2.sv st.2.chS ∧ SecsAt W B st.2.ar st.2.nv (List.replicate st.1 zSec) st.1 ∧ SecsAt W B st.2.ar st.2.sv (List.replicate st.1 zSec) st.1) (fun st => n - st.1) (0, ⟨bb8, bm6, .slice none 0 0, .slice none 0 0, [], [], [], [], []⟩) ?st3_j ?st3_e ?st3_h ?st3_r
  case st3_j => exact ⟨Nat.zero_le _, OwnS.nil, OwnS.nil, ⟨rfl, fun i hi => by omega⟩, ⟨rfl, fun i hi => by omega⟩⟩
  case st3_e => repeat (first | exact Env.Le.nil _ | refine Env.Le.cons rfl ?_)
  case st3_h => repeat (first | exact Sub.heap_nil _ | exact Sub.refl _ | refine Sub.heap_cons (by repeat (first | exact Take.head _ _ | apply Take.tail)) ?_)
  case st3_r =>
    rintro ⟨i, r⟩ ⟨hi, hoN, hoS, hsN, hsS⟩; dsimp only at hi hoN hoS hsN hsS
    try dsimp only
    refine CW.seq ?_
    refine CW.seq ?_
    refine CW.region ?_
    refine LW.move rfl rfl ?_
    refine LW.move rfl rfl ?_
    refine LW.lss _ rfl rfl rfl rfl ?_
    refine LW.nil ?_
    refine NW.then_ ?_
    refine CW.cond rfl (fun hc11 => ?_) (fun hc11 => ?_)
    · replace hc11 := of_decide_eq_true hc11
      try dsimp only at hc11
      refine CW.skip ?_
      refine NW.then_ ?_
      refine CW.seq ?_
      refine CW.block ?_
      refine CW.drawT [cr bb8 71 [r.vN, r.vS, .slice (some ⟨bm6, 0, none⟩) n n, .int .i64 0, .bool false]] 18 FactsRDev1.mixed ?_
      refine AT.takes [(0, false), (1, false), (2, false), (3, false), (4, false), (5, true), (9, false), (10, false), (11, false), (12, true)] 12 (by kernel_rfl) (by kernel_rfl) rfl (by repeat (first | exact PO.body | refine PO.then_ ?_ | refine PO.block ?_ | refine PO.noGoto ?_)) (fun _ => (fun _ s => Held.of s (by repeat (first | exact Sub.nil _ | refine Sub.cons1 (by repeat (first | exact Take.head _ _ | apply Take.tail)) ?_)))) ?_
      refine TT.take rfl (Yl.move rfl) rfl ?_
      refine TT.take rfl (Yl.move rfl) rfl ?_
      refine TT.take rfl (Yl.move rfl) rfl ?_
      refine TT.take rfl (Yl.nilPtr rfl) rfl ?_
      refine TT.take rfl (Yl.fieldAddr _ rfl (fun _ => FactsRDev1.fa71_0 _ _ _)) rfl ?_
      refine TT.takeH rfl (Yl.load rfl (by repeat (first | exact List.Mem.head _ | refine List.Mem.tail _ ?_)) rfl FactsRDev1.one51) rfl ?_
      refine TT.take rfl (Yl.move rfl) rfl ?_
      refine TT.take rfl (Yl.nilPtr rfl) rfl ?_
      refine TT.take rfl (Yl.fieldAddr _ rfl (fun _ => FactsRDev1.fa71_1 _ _ _)) rfl ?_
      refine TT.takeH rfl (Yl.load rfl (by repeat (first | exact List.Mem.head _ | refine List.Mem.tail _ ?_)) rfl FactsRDev1.one51) rfl ?_
      refine TT.nil ?_
      refine AT.all [6, 13] (by kernel_rfl) rfl ?_
      refine ATs.cons rfl ?_ ?_
      · refine LW.make (64) (64) (zSec.map u8v) rfl rfl (by first | rfl | omega) (by first | rfl | omega) Tryd.underlying26 FactsRDev1.info5 (by omega) (by omega) (by omega) (hz2) rfl ?_
        intro bm20
        refine LW.nil ?_
        refine AT.back (fun _ s => Held.of s (by repeat (first | exact Sub.nil _ | refine Sub.cons1 (by repeat (first | exact Take.head _ _ | apply Take.tail)) ?_))) ?_
        refine AT.all [7, 13] (by kernel_rfl) rfl ?_
        refine ATs.cons rfl ?_ ?_
        · refine LW.buildSlice (vs := [_]) ⟨rfl, trivial⟩ rfl (by intro v hv; simp at hv; subst hv; rfl) Tryd.underlying51 FactsRDev1.info26 rfl (by decide) (by decide) rfl ?_
          intro bs21
          refine LW.nil ?_
          refine AT.back (fun _ s => Held.of s (by repeat (first | exact Sub.nil _ | refine Sub.cons1 (by repeat (first | exact Take.head _ _ | apply Take.tail)) ?_))) ?_
          refine AT.all [8, 13] (by kernel_rfl) rfl ?_
          refine ATs.cons rfl ?_ ?_
          · refine LW.append ([.slice (some ⟨bm20, 0, none⟩) 64 64]) rfl rfl Tryd.underlying51 Tryd.underlying51 (.inr ⟨_, rfl⟩) FactsRDev1.info26 rfl (hoN) (by repeat (first | exact Take.head _ _ | apply Take.tail)) (fun _ => lenOf_slice _ _ _ _) (first_rd (RdAt.row (by repeat (first | exact Take.head _ _ | apply Take.tail)) (fun j v hj => by rw [Nat.zero_add]; exact hj)) rfl (fun h => (by cases h))) (rfl) (by intro u hu; simp at hu; subst hu; rfl) (by omega) (by omega) rfl ?_
            intro vN' chN' hoN'
            refine LW.nil ?_
            refine AT.back (fun _ s => Held.of s (by repeat (first | exact Sub.nil _ | refine Sub.cons1 (by repeat (first | exact Take.head _ _ | apply Take.tail)) ?_))) ?_
            refine AT.act 13 (by kernel_rfl) rfl ?_
            refine LW.make (64) (64) (zSec.map u8v) rfl rfl (by first | rfl | omega) (by first | rfl | omega) Tryd.underlying26 FactsRDev1.info5 (by omega) (by omega) (by omega) (hz2) rfl ?_
            intro bm27
            refine LW.nil ?_
            refine AT.back (fun _ s => Held.of s (by repeat (first | exact Sub.nil _ | refine Sub.cons1 (by repeat (first | exact Take.head _ _ | apply Take.tail)) ?_))) ?_
            refine AT.act 14 (by kernel_rfl) rfl ?_
            refine LW.buildSlice (vs := [_]) ⟨rfl, trivial⟩ rfl (by intro v hv; simp at hv; subst hv; rfl) Tryd.underlying51 FactsRDev1.info26 rfl (by decide) (by decide) rfl ?_
            intro bs28
            refine LW.nil ?_
            refine AT.back (fun _ s => Held.of s (by repeat (first | exact Sub.nil _ | refine Sub.cons1 (by repeat (first | exact Take.head _ _ | apply Take.tail)) ?_))) ?_
            refine AT.act 15 (by kernel_rfl) rfl ?_
            refine LW.append ([.slice (some ⟨bm27, 0, none⟩) 64 64]) rfl rfl Tryd.underlying51 Tryd.underlying51 (.inr ⟨_, rfl⟩) FactsRDev1.info26 rfl (hoS) (by repeat (first | exact Take.head _ _ | apply Take.tail)) (fun _ => lenOf_slice _ _ _ _) (first_rd (RdAt.row (by repeat (first | exact Take.head _ _ | apply Take.tail)) (fun j v hj => by rw [Nat.zero_add]; exact hj)) rfl (fun h => (by cases h))) (rfl) (by intro u hu; simp at hu; subst hu; rfl) (by omega) (by omega) rfl ?_
            intro vS' chS' hoS'
            refine LW.nil ?_
            refine AT.back (fun _ s => Held.of s (by repeat (first | exact Sub.nil _ | refine Sub.cons1 (by repeat (first | exact Take.head _ _ | apply Take.tail)) ?_))) ?_
            refine AT.takes [(16, false), (17, false)] 4 (by kernel_rfl) (by kernel_rfl) rfl (by repeat (first | exact PO.body | refine PO.then_ ?_ | refine PO.block ?_ | refine PO.noGoto ?_)) (fun _ => (fun _ s => Held.of s (by repeat (first | exact Sub.nil _ | refine Sub.cons1 (by repeat (first | exact Take.head _ _ | apply Take.tail)) ?_)))) ?_
            refine TT.take rfl (Yl.nilPtr rfl) rfl ?_
            refine TT.take rfl (Yl.fieldAddr _ rfl (fun _ => FactsRDev1.fa71_0 _ _ _)) rfl ?_
            refine TT.nil ?_
            refine AT.act 18 (by kernel_rfl) rfl ?_
            refine LW.store rfl rfl (by repeat (first | exact Take.head _ _ | apply Take.tail)) (by first | decide | exact Nat.lt_of_sub_pos (by rfl) | (simp; done) | simp [devHead]) FactsRDev1.sz51 (OwnS.one hoN') ?_
            refine LW.nil ?_
            refine AT.backK (by kernel_rfl) ?_
            refine AT.takes [(19, false), (20, false)] 1 (by kernel_rfl) (by kernel_rfl) rfl (by repeat (first | exact PO.body | refine PO.then_ ?_ | refine PO.block ?_ | refine PO.noGoto ?_)) (fun hl _ _ => (no_tf (by kernel_rfl) hl).elim) ?_
            refine TT.take rfl (Yl.nilPtr rfl) rfl ?_
            refine TT.take rfl (Yl.fieldAddr _ rfl (fun _ => FactsRDev1.fa71_1 _ _ _)) rfl ?_
            refine TT.nil ?_
            refine AT.act 21 (by kernel_rfl) rfl ?_
            refine LW.store rfl rfl (by repeat (first | exact Take.head _ _ | apply Take.tail)) (by first | decide | exact Nat.lt_of_sub_pos (by rfl) | (simp; done) | simp [devHead]) FactsRDev1.sz51 (OwnS.one hoS') ?_
            refine LW.nil ?_
            refine AT.backK (by kernel_rfl) ?_
            refine AT.done (by kernel_rfl) ?_
            refine NW.block ?_
            refine NW.then_ ?_
            refine CW.region ?_
            refine LW.move rfl rfl ?_
            refine LW.add64 rfl rfl (by omega) (by omega) rfl ?_
            refine LW.assign rfl rfl ?_
            refine LW.nil ?_
            refine NW.meet ((i + 1, ⟨bb8, bm6, vN', vS', r.nv ++ [.slice (some ⟨bm20, 0, none⟩) 64 64], r.sv ++ [.slice (some ⟨bm27, 0, none⟩) 64 64], chN', chS', [cr bm20 5 (zSec.map u8v)] ++ ([cr bm27 5 (zSec.map u8v)] ++ r.ar)⟩)) ?j1 ?e1 ?h1
            case j1 => exact ⟨⟨by omega, hoN', hoS', by
              rw [List.replicate_succ']
              exact (hsN.more (fun x hx => by simp [hx])).app (by simp) ⟨_, _, rfl, by decide, .inr ⟨_, rfl, .inr ⟨_, _, _, _, rfl, List.mem_cons_self, fun j v hj => by rw [Nat.zero_add]; exact hj⟩⟩⟩, by
              rw [List.replicate_succ']
              exact (hsS.more (fun x hx => by simp [hx])).app (by simp) ⟨_, _, rfl, by decide, .inr ⟨_, rfl, .inr ⟨_, _, _, _, rfl, List.mem_append_right _ (List.mem_append_left _ (List.mem_singleton.2 rfl)), fun j v hj => by rw [Nat.zero_add]; exact hj⟩⟩⟩⟩, by dsimp only; omega⟩
            case e1 => repeat (first | exact Env.Le.nil _ | refine Env.Le.cons rfl ?_)
            case h1 => exact Sub.heap_cons (by repeat (first | exact Take.head _ _ | apply Take.tail)) (Sub.heap_cons (by repeat (first | exact Take.head _ _ | apply Take.tail)) (Sub.heap_cons (by repeat (first | exact Take.head _ _ | apply Take.tail)) (Sub.heap_cons (by repeat (first | exact Take.head _ _ | apply Take.tail)) (Sub.heap_cons (Take.both (by repeat (first | exact Take.head _ _ | apply Take.tail)) (Take.both (by repeat (first | exact Take.head _ _ | apply Take.tail)) (by repeat (first | exact Take.head _ _ | apply Take.tail)))) (Sub.heap_nil _)))))
          refine ATs.cons rfl ?_ ?_
          · refine LW.make (64) (64) (zSec.map u8v) rfl rfl (by first | rfl | omega) (by first | rfl | omega) Tryd.underlying26 FactsRDev1.info5 (by omega) (by omega) (by omega) (hz2) rfl ?_
            intro bm27
            refine LW.nil ?_
            refine AT.back (fun _ s => Held.of s (by repeat (first | exact Sub.nil _ | refine Sub.cons1 (by repeat (first | exact Take.head _ _ | apply Take.tail)) ?_))) ?_
            refine AT.all [8, 14] (by kernel_rfl) rfl ?_
            refine ATs.cons rfl ?_ ?_
            · refine LW.append ([.slice (some ⟨bm20, 0, none⟩) 64 64]) rfl rfl Tryd.underlying51 Tryd.underlying51 (.inr ⟨_, rfl⟩) FactsRDev1.info26 rfl (hoN) (by repeat (first | exact Take.head _ _ | apply Take.tail)) (fun _ => lenOf_slice _ _ _ _) (first_rd (RdAt.row (by repeat (first | exact Take.head _ _ | apply Take.tail)) (fun j v hj => by rw [Nat.zero_add]; exact hj)) rfl (fun h => (by cases h))) (rfl) (by intro u hu; simp at hu; subst hu; rfl) (by omega) (by omega) rfl ?_
              intro vN' chN' hoN'
              refine LW.nil ?_
              refine AT.back (fun _ s => Held.of s (by repeat (first | exact Sub.nil _ | refine Sub.cons1 (by repeat (first | exact Take.head _ _ | apply Take.tail)) ?_))) ?_
              refine AT.act 14 (by kernel_rfl) rfl ?_
              refine LW.buildSlice (vs := [_]) ⟨rfl, trivial⟩ rfl (by intro v hv; simp at hv; subst hv; rfl) Tryd.underlying51 FactsRDev1.info26 rfl (by decide) (by decide) rfl ?_
              intro bs28
              refine LW.nil ?_
              refine AT.back (fun _ s => Held.of s (by repeat (first | exact Sub.nil _ | refine Sub.cons1 (by repeat (first | exact Take.head _ _ | apply Take.tail)) ?_))) ?_
              refine AT.act 15 (by kernel_rfl) rfl ?_
              refine LW.append ([.slice (some ⟨bm27, 0, none⟩) 64 64]) rfl rfl Tryd.underlying51 Tryd.underlying51 (.inr ⟨_, rfl⟩) FactsRDev1.info26 rfl (hoS) (by repeat (first | exact Take.head _ _ | apply Take.tail)) (fun _ => lenOf_slice _ _ _ _) (first_rd (RdAt.row (by repeat (first | exact Take.head _ _ | apply Take.tail)) (fun j v hj => by rw [Nat.zero_add]; exact hj)) rfl (fun h => (by cases h))) (rfl) (by intro u hu; simp at hu; subst hu; rfl) (by omega) (by omega) rfl ?_
              intro vS' chS' hoS'
              refine LW.nil ?_
              refine AT.back (fun _ s => Held.of s (by repeat (first | exact Sub.nil _ | refine Sub.cons1 (by repeat (first | exact Take.head _ _ | apply Take.tail)) ?_))) ?_
              refine AT.takes [(16, false), (17, false)] 4 (by kernel_rfl) (by kernel_rfl) rfl (by repeat (first | exact PO.body | refine PO.then_ ?_ | refine PO.block ?_ | refine PO.noGoto ?_)) (fun _ => (fun _ s => Held.of s (by repeat (first | exact Sub.nil _ | refine Sub.cons1 (by repeat (first | exact Take.head _ _ | apply Take.tail)) ?_)))) ?_
              refine TT.take rfl (Yl.nilPtr rfl) rfl ?_
              refine TT.take rfl (Yl.fieldAddr _ rfl (fun _ => FactsRDev1.fa71_0 _ _ _)) rfl ?_
              refine TT.nil ?_
              refine AT.act 18 (by kernel_rfl) rfl ?_
              refine LW.store rfl rfl (by repeat (first | exact Take.head _ _ | apply Take.tail)) (by first | decide | exact Nat.lt_of_sub_pos (by rfl) | (simp; done) | simp [devHead]) FactsRDev1.sz51 (OwnS.one hoN') ?_
              refine LW.nil ?_
              refine AT.backK (by kernel_rfl) ?_
              refine AT.takes [(19, false), (20, false)] 1 (by kernel_rfl) (by kernel_rfl) rfl (by repeat (first | exact PO.body | refine PO.then_ ?_ | refine PO.block ?_ | refine PO.noGoto ?_)) (fun hl _ _ => (no_tf (by kernel_rfl) hl).elim) ?_
              refine TT.take rfl (Yl.nilPtr rfl) rfl ?_
              refine TT.take rfl (Yl.fieldAddr _ rfl (fun _ => FactsRDev1.fa71_1 _ _ _)) rfl ?_
              refine TT.nil ?_
              refine AT.act 21 (by kernel_rfl) rfl ?_
              refine LW.store rfl rfl (by repeat (first | exact Take.head _ _ | apply Take.tail)) (by first | decide | exact Nat.lt_of_sub_pos (by rfl) | (simp; done) | simp [devHead]) FactsRDev1.sz51 (OwnS.one hoS') ?_
              refine LW.nil ?_
              refine AT.backK (by kernel_rfl) ?_
              refine AT.done (by kernel_rfl) ?_
              refine NW.block ?_
              refine NW.then_ ?_
              refine CW.region ?_
              refine LW.move rfl rfl ?_
              refine LW.add64 rfl rfl (by omega) (by omega) rfl ?_
              refine LW.assign rfl rfl ?_
              refine LW.nil ?_
              refine NW.meet ((i + 1, ⟨bb8, bm6, vN', vS', r.nv ++ [.slice (some ⟨bm20, 0, none⟩) 64 64], r.sv ++ [.slice (some ⟨bm27, 0, none⟩) 64 64], chN', chS', [cr bm20 5 (zSec.map u8v)] ++ ([cr bm27 5 (zSec.map u8v)] ++ r.ar)⟩)) ?j2 ?e2 ?h2
              case j2 => exact ⟨⟨by omega, hoN', hoS', by
                rw [List.replicate_succ']
                exact (hsN.more (fun x hx => by simp [hx])).app (by simp) ⟨_, _, rfl, by decide, .inr ⟨_, rfl, .inr ⟨_, _, _, _, rfl, List.mem_cons_self, fun j v hj => by rw [Nat.zero_add]; exact hj⟩⟩⟩, by
                rw [List.replicate_succ']
                exact (hsS.more (fun x hx => by simp [hx])).app (by simp) ⟨_, _, rfl, by decide, .inr ⟨_, rfl, .inr ⟨_, _, _, _, rfl, List.mem_append_right _ (List.mem_append_left _ (List.mem_singleton.2 rfl)), fun j v hj => by rw [Nat.zero_add]; exact hj⟩⟩⟩⟩, by dsimp only; omega⟩
              case e2 => repeat (first | exact Env.Le.nil _ | refine Env.Le.cons rfl ?_)
              case h2 => exact Sub.heap_cons (by repeat (first | exact Take.head _ _ | apply Take.tail)) (Sub.heap_cons (by repeat (first | exact Take.head _ _ | apply Take.tail)) (Sub.heap_cons (by repeat (first | exact Take.head _ _ | apply Take.tail)) (Sub.heap_cons (by repeat (first | exact Take.head _ _ | apply Take.tail)) (Sub.heap_cons (Take.both (by repeat (first | exact Take.head _ _ | apply Take.tail)) (Take.both (by repeat (first | exact Take.head _ _ | apply Take.tail)) (by repeat (first | exact Take.head _ _ | apply Take.tail)))) (Sub.heap_nil _)))))
            refine ATs.cons rfl ?_ ?_
            · refine LW.buildSlice (vs := [_]) ⟨rfl, trivial⟩ rfl (by intro v hv; simp at hv; subst hv; rfl) Tryd.underlying51 FactsRDev1.info26 rfl (by decide) (by decide) rfl ?_
              intro bs28
              refine LW.nil ?_
              refine AT.back (fun _ s => Held.of s (by repeat (first | exact Sub.nil _ | refine Sub.cons1 (by repeat (first | exact Take.head _ _ | apply Take.tail)) ?_))) ?_
              refine AT.act 8 (by kernel_rfl) rfl ?_
              refine LW.append ([.slice (some ⟨bm20, 0, none⟩) 64 64]) rfl rfl Tryd.underlying51 Tryd.underlying51 (.inr ⟨_, rfl⟩) FactsRDev1.info26 rfl (hoN) (by repeat (first | exact Take.head _ _ | apply Take.tail)) (fun _ => lenOf_slice _ _ _ _) (first_rd (RdAt.row (by repeat (first | exact Take.head _ _ | apply Take.tail)) (fun j v hj => by rw [Nat.zero_add]; exact hj)) rfl (fun h => (by cases h))) (rfl) (by intro u hu; simp at hu; subst hu; rfl) (by omega) (by omega) rfl ?_
              intro vN' chN' hoN'
              refine LW.nil ?_
              refine AT.back (fun _ s => Held.of s (by repeat (first | exact Sub.nil _ | refine Sub.cons1 (by repeat (first | exact Take.head _ _ | apply Take.tail)) ?_))) ?_
              refine AT.act 15 (by kernel_rfl) rfl ?_
              refine LW.append ([.slice (some ⟨bm27, 0, none⟩) 64 64]) rfl rfl Tryd.underlying51 Tryd.underlying51 (.inr ⟨_, rfl⟩) FactsRDev1.info26 rfl (hoS) (by repeat (first | exact Take.head _ _ | apply Take.tail)) (fun _ => lenOf_slice _ _ _ _) (first_rd (RdAt.row (by repeat (first | exact Take.head _ _ | apply Take.tail)) (fun j v hj => by rw [Nat.zero_add]; exact hj)) rfl (fun h => (by cases h))) (rfl) (by intro u hu; simp at hu; subst hu; rfl) (by omega) (by omega) rfl ?_
              intro vS' chS' hoS'
              refine LW.nil ?_
              refine AT.back (fun _ s => Held.of s (by repeat (first | exact Sub.nil _ | refine Sub.cons1 (by repeat (first | exact Take.head _ _ | apply Take.tail)) ?_))) ?_
              refine AT.takes [(16, false), (17, false)] 4 (by kernel_rfl) (by kernel_rfl) rfl (by repeat (first | exact PO.body | refine PO.then_ ?_ | refine PO.block ?_ | refine PO.noGoto ?_)) (fun _ => (fun _ s => Held.of s (by repeat (first | exact Sub.nil _ | refine Sub.cons1 (by repeat (first | exact Take.head _ _ | apply Take.tail)) ?_)))) ?_
              refine TT.take rfl (Yl.nilPtr rfl) rfl ?_
              refine TT.take rfl (Yl.fieldAddr _ rfl (fun _ => FactsRDev1.fa71_0 _ _ _)) rfl ?_
              refine TT.nil ?_
              refine AT.act 18 (by kernel_rfl) rfl ?_
              refine LW.store rfl rfl (by repeat (first | exact Take.head _ _ | apply Take.tail)) (by first | decide | exact Nat.lt_of_sub_pos (by rfl) | (simp; done) | simp [devHead]) FactsRDev1.sz51 (OwnS.one hoN') ?_
              refine LW.nil ?_
              refine AT.backK (by kernel_rfl) ?_
              refine AT.takes [(19, false), (20, false)] 1 (by kernel_rfl) (by kernel_rfl) rfl (by repeat (first | exact PO.body | refine PO.then_ ?_ | refine PO.block ?_ | refine PO.noGoto ?_)) (fun hl _ _ => (no_tf (by kernel_rfl) hl).elim) ?_
              refine TT.take rfl (Yl.nilPtr rfl) rfl ?_
              refine TT.take rfl (Yl.fieldAddr _ rfl (fun _ => FactsRDev1.fa71_1 _ _ _)) rfl ?_
              refine TT.nil ?_
              refine AT.act 21 (by kernel_rfl) rfl ?_
              refine LW.store rfl rfl (by repeat (first | exact Take.head _ _ | apply Take.tail)) (by first | decide | exact Nat.lt_of_sub_pos (by rfl) | (simp; done) | simp [devHead]) FactsRDev1.sz51 (OwnS.one hoS') ?_
              refine LW.nil ?_
              refine AT.backK (by kernel_rfl) ?_
              refine AT.done (by kernel_rfl) ?_
              refine NW.block ?_
              refine NW.then_ ?_
              refine CW.region ?_
              refine LW.move rfl rfl ?_
              refine LW.add64 rfl rfl (by omega) (by omega) rfl ?_
              refine LW.assign rfl rfl ?_
              refine LW.nil ?_
              refine NW.meet ((i + 1, ⟨bb8, bm6, vN', vS', r.nv ++ [.slice (some ⟨bm20, 0, none⟩) 64 64], r.sv ++ [.slice (some ⟨bm27, 0, none⟩) 64 64], chN', chS', [cr bm20 5 (zSec.map u8v)] ++ ([cr bm27 5 (zSec.map u8v)] ++ r.ar)⟩)) ?j3 ?e3 ?h3
              case j3 => exact ⟨⟨by omega, hoN', hoS', by
                rw [List.replicate_succ']
                exact (hsN.more (fun x hx => by simp [hx])).app (by simp) ⟨_, _, rfl, by decide, .inr ⟨_, rfl, .inr ⟨_, _, _, _, rfl, List.mem_cons_self, fun j v hj => by rw [Nat.zero_add]; exact hj⟩⟩⟩, by
                rw [List.replicate_succ']
                exact (hsS.more (fun x hx => by simp [hx])).app (by simp) ⟨_, _, rfl, by decide, .inr ⟨_, rfl, .inr ⟨_, _, _, _, rfl, List.mem_append_right _ (List.mem_append_left _ (List.mem_singleton.2 rfl)), fun j v hj => by rw [Nat.zero_add]; exact hj⟩⟩⟩⟩, by dsimp only; omega⟩
              case e3 => repeat (first | exact Env.Le.nil _ | refine Env.Le.cons rfl ?_)
              case h3 => exact Sub.heap_cons (by repeat (first | exact Take.head _ _ | apply Take.tail)) (Sub.heap_cons (by repeat (first | exact Take.head _ _ | apply Take.tail)) (Sub.heap_cons (by repeat (first | exact Take.head _ _ | apply Take.tail)) (Sub.heap_cons (by repeat (first | exact Take.head _ _ | apply Take.tail)) (Sub.heap_cons (Take.both (by repeat (first | exact Take.head _ _ | apply Take.tail)) (Take.both (by repeat (first | exact Take.head _ _ | apply Take.tail)) (by repeat (first | exact Take.head _ _ | apply Take.tail)))) (Sub.heap_nil _)))))
            exact ATs.nil
          exact ATs.nil
        refine ATs.cons rfl ?_ ?_
        · refine LW.make (64) (64) (zSec.map u8v) rfl rfl (by first | rfl | omega) (by first | rfl | omega) Tryd.underlying26 FactsRDev1.info5 (by omega) (by omega) (by omega) (hz2) rfl ?_
          intro bm27
          refine LW.nil ?_
          refine AT.back (fun _ s => Held.of s (by repeat (first | exact Sub.nil _ | refine Sub.cons1 (by repeat (first | exact Take.head _ _ | apply Take.tail)) ?_))) ?_
          refine AT.all [7, 14] (by kernel_rfl) rfl ?_
          refine ATs.cons rfl ?_ ?_
          · refine LW.buildSlice (vs := [_]) ⟨rfl, trivial⟩ rfl (by intro v hv; simp at hv; subst hv; rfl) Tryd.underlying51 FactsRDev1.info26 rfl (by decide) (by decide) rfl ?_
            intro bs21
            refine LW.nil ?_
            refine AT.back (fun _ s => Held.of s (by repeat (first | exact Sub.nil _ | refine Sub.cons1 (by repeat (first | exact Take.head _ _ | apply Take.tail)) ?_))) ?_
            refine AT.all [8, 14] (by kernel_rfl) rfl ?_
            refine ATs.cons rfl ?_ ?_
            · refine LW.append ([.slice (some ⟨bm20, 0, none⟩) 64 64]) rfl rfl Tryd.underlying51 Tryd.underlying51 (.inr ⟨_, rfl⟩) FactsRDev1.info26 rfl (hoN) (by repeat (first | exact Take.head _ _ | apply Take.tail)) (fun _ => lenOf_slice _ _ _ _) (first_rd (RdAt.row (by repeat (first | exact Take.head _ _ | apply Take.tail)) (fun j v hj => by rw [Nat.zero_add]; exact hj)) rfl (fun h => (by cases h))) (rfl) (by intro u hu; simp at hu; subst hu; rfl) (by omega) (by omega) rfl ?_
              intro vN' chN' hoN'
              refine LW.nil ?_
              refine AT.back (fun _ s => Held.of s (by repeat (first | exact Sub.nil _ | refine Sub.cons1 (by repeat (first | exact Take.head _ _ | apply Take.tail)) ?_))) ?_
              refine AT.act 14 (by kernel_rfl) rfl ?_
              refine LW.buildSlice (vs := [_]) ⟨rfl, trivial⟩ rfl (by intro v hv; simp at hv; subst hv; rfl) Tryd.underlying51 FactsRDev1.info26 rfl (by decide) (by decide) rfl ?_
              intro bs28
              refine LW.nil ?_
              refine AT.back (fun _ s => Held.of s (by repeat (first | exact Sub.nil _ | refine Sub.cons1 (by repeat (first | exact Take.head _ _ | apply Take.tail)) ?_))) ?_
              refine AT.act 15 (by kernel_rfl) rfl ?_
              refine LW.append ([.slice (some ⟨bm27, 0, none⟩) 64 64]) rfl rfl Tryd.underlying51 Tryd.underlying51 (.inr ⟨_, rfl⟩) FactsRDev1.info26 rfl (hoS) (by repeat (first | exact Take.head _ _ | apply Take.tail)) (fun _ => lenOf_slice _ _ _ _) (first_rd (RdAt.row (by repeat (first | exact Take.head _ _ | apply Take.tail)) (fun j v hj => by rw [Nat.zero_add]; exact hj)) rfl (fun h => (by cases h))) (rfl) (by intro u hu; simp at hu; subst hu; rfl) (by omega) (by omega) rfl ?_
              intro vS' chS' hoS'
              refine LW.nil ?_
              refine AT.back (fun _ s => Held.of s (by repeat (first | exact Sub.nil _ | refine Sub.cons1 (by repeat (first | exact Take.head _ _ | apply Take.tail)) ?_))) ?_
              refine AT.takes [(16, false), (17, false)] 4 (by kernel_rfl) (by kernel_rfl) rfl (by repeat (first | exact PO.body | refine PO.then_ ?_ | refine PO.block ?_ | refine PO.noGoto ?_)) (fun _ => (fun _ s => Held.of s (by repeat (first | exact Sub.nil _ | refine Sub.cons1 (by repeat (first | exact Take.head _ _ | apply Take.tail)) ?_)))) ?_
              refine TT.take rfl (Yl.nilPtr rfl) rfl ?_
              refine TT.take rfl (Yl.fieldAddr _ rfl (fun _ => FactsRDev1.fa71_0 _ _ _)) rfl ?_
              refine TT.nil ?_
              refine AT.act 18 (by kernel_rfl) rfl ?_
              refine LW.store rfl rfl (by repeat (first | exact Take.head _ _ | apply Take.tail)) (by first | decide | exact Nat.lt_of_sub_pos (by rfl) | (simp; done) | simp [devHead]) FactsRDev1.sz51 (OwnS.one hoN') ?_
              refine LW.nil ?_
              refine AT.backK (by kernel_rfl) ?_
              refine AT.takes [(19, false), (20, false)] 1 (by kernel_rfl) (by kernel_rfl) rfl (by repeat (first | exact PO.body | refine PO.then_ ?_ | refine PO.block ?_ | refine PO.noGoto ?_)) (fun hl _ _ => (no_tf (by kernel_rfl) hl).elim) ?_
              refine TT.take rfl (Yl.nilPtr rfl) rfl ?_
              refine TT.take rfl (Yl.fieldAddr _ rfl (fun _ => FactsRDev1.fa71_1 _ _ _)) rfl ?_
              refine TT.nil ?_
              refine AT.act 21 (by kernel_rfl) rfl ?_
              refine LW.store rfl rfl (by repeat (first | exact Take.head _ _ | apply Take.tail)) (by first | decide | exact Nat.lt_of_sub_pos (by rfl) | (simp; done) | simp [devHead]) FactsRDev1.sz51 (OwnS.one hoS') ?_
              refine LW.nil ?_
              refine AT.backK (by kernel_rfl) ?_
              refine AT.done (by kernel_rfl) ?_
              refine NW.block ?_
              refine NW.then_ ?_
              refine CW.region ?_
              refine LW.move rfl rfl ?_
              refine LW.add64 rfl rfl (by omega) (by omega) rfl ?_
              refine LW.assign rfl rfl ?_
              refine LW.nil ?_
              refine NW.meet ((i + 1, ⟨bb8, bm6, vN', vS', r.nv ++ [.slice (some ⟨bm20, 0, none⟩) 64 64], r.sv ++ [.slice (some ⟨bm27, 0, none⟩) 64 64], chN', chS', [cr bm20 5 (zSec.map u8v)] ++ ([cr bm27 5 (zSec.map u8v)] ++ r.ar)⟩)) ?j4 ?e4 ?h4
              case j4 => exact ⟨⟨by omega, hoN', hoS', by
                rw [List.replicate_succ']
                exact (hsN.more (fun x hx => by simp [hx])).app (by simp) ⟨_, _, rfl, by decide, .inr ⟨_, rfl, .inr ⟨_, _, _, _, rfl, List.mem_cons_self, fun j v hj => by rw [Nat.zero_add]; exact hj⟩⟩⟩, by
                rw [List.replicate_succ']
                exact (hsS.more (fun x hx => by simp [hx])).app (by simp) ⟨_, _, rfl, by decide, .inr ⟨_, rfl, .inr ⟨_, _, _, _, rfl, List.mem_append_right _ (List.mem_append_left _ (List.mem_singleton.2 rfl)), fun j v hj => by rw [Nat.zero_add]; exact hj⟩⟩⟩⟩, by dsimp only; omega⟩
              case e4 => repeat (first | exact Env.Le.nil _ | refine Env.Le.cons rfl ?_)
              case h4 => exact Sub.heap_cons (by repeat (first | exact Take.head _ _ | apply Take.tail)) (Sub.heap_cons (by repeat (first | exact Take.head _ _ | apply Take.tail)) (Sub.heap_cons (by repeat (first | exact Take.head _ _ | apply Take.tail)) (Sub.heap_cons (by repeat (first | exact Take.head _ _ | apply Take.tail)) (Sub.heap_cons (Take.both (by repeat (first | exact Take.head _ _ | apply Take.tail)) (Take.both (by repeat (first | exact Take.head _ _ | apply Take.tail)) (by repeat (first | exact Take.head _ _ | apply Take.tail)))) (Sub.heap_nil _)))))
            refine ATs.cons rfl ?_ ?_
            · refine LW.buildSlice (vs := [_]) ⟨rfl, trivial⟩ rfl (by intro v hv; simp at hv; subst hv; rfl) Tryd.underlying51 FactsRDev1.info26 rfl (by decide) (by decide) rfl ?_
              intro bs28
              refine LW.nil ?_
              refine AT.back (fun _ s => Held.of s (by repeat (first | exact Sub.nil _ | refine Sub.cons1 (by repeat (first | exact Take.head _ _ | apply Take.tail)) ?_))) ?_
              refine AT.act 8 (by kernel_rfl) rfl ?_
              refine LW.append ([.slice (some ⟨bm20, 0, none⟩) 64 64]) rfl rfl Tryd.underlying51 Tryd.underlying51 (.inr ⟨_, rfl⟩) FactsRDev1.info26 rfl (hoN) (by repeat (first | exact Take.head _ _ | apply Take.tail)) (fun _ => lenOf_slice _ _ _ _) (first_rd (RdAt.row (by repeat (first | exact Take.head _ _ | apply Take.tail)) (fun j v hj => by rw [Nat.zero_add]; exact hj)) rfl (fun h => (by cases h))) (rfl) (by intro u hu; simp at hu; subst hu; rfl) (by omega) (by omega) rfl ?_
              intro vN' chN' hoN'
              refine LW.nil ?_
              refine AT.back (fun _ s => Held.of s (by repeat (first | exact Sub.nil _ | refine Sub.cons1 (by repeat (first | exact Take.head _ _ | apply Take.tail)) ?_))) ?_
              refine AT.act 15 (by kernel_rfl) rfl ?_
              refine LW.append ([.slice (some ⟨bm27, 0, none⟩) 64 64]) rfl rfl Tryd.underlying51 Tryd.underlying51 (.inr ⟨_, rfl⟩) FactsRDev1.info26 rfl (hoS) (by repeat (first | exact Take.head _ _ | apply Take.tail)) (fun _ => lenOf_slice _ _ _ _) (first_rd (RdAt.row (by repeat (first | exact Take.head _ _ | apply Take.tail)) (fun j v hj => by rw [Nat.zero_add]; exact hj)) rfl (fun h => (by cases h))) (rfl) (by intro u hu; simp at hu; subst hu; rfl) (by omega) (by omega) rfl ?_
              intro vS' chS' hoS'
              refine LW.nil ?_
              refine AT.back (fun _ s => Held.of s (by repeat (first | exact Sub.nil _ | refine Sub.cons1 (by repeat (first | exact Take.head _ _ | apply Take.tail)) ?_))) ?_
              refine AT.takes [(16, false), (17, false)] 4 (by kernel_rfl) (by kernel_rfl) rfl (by repeat (first | exact PO.body | refine PO.then_ ?_ | refine PO.block ?_ | refine PO.noGoto ?_)) (fun _ => (fun _ s => Held.of s (by repeat (first | exact Sub.nil _ | refine Sub.cons1 (by repeat (first | exact Take.head _ _ | apply Take.tail)) ?_)))) ?_
              refine TT.take rfl (Yl.nilPtr rfl) rfl ?_
              refine TT.take rfl (Yl.fieldAddr _ rfl (fun _ => FactsRDev1.fa71_0 _ _ _)) rfl ?_
              refine TT.nil ?_
              refine AT.act 18 (by kernel_rfl) rfl ?_
              refine LW.store rfl rfl (by repeat (first | exact Take.head _ _ | apply Take.tail)) (by first | decide | exact Nat.lt_of_sub_pos (by rfl) | (simp; done) | simp [devHead]) FactsRDev1.sz51 (OwnS.one hoN') ?_
              refine LW.nil ?_
              refine AT.backK (by kernel_rfl) ?_
              refine AT.takes [(19, false), (20, false)] 1 (by kernel_rfl) (by kernel_rfl) rfl (by repeat (first | exact PO.body | refine PO.then_ ?_ | refine PO.block ?_ | refine PO.noGoto ?_)) (fun hl _ _ => (no_tf (by kernel_rfl) hl).elim) ?_
              refine TT.take rfl (Yl.nilPtr rfl) rfl ?_
              refine TT.take rfl (Yl.fieldAddr _ rfl (fun _ => FactsRDev1.fa71_1 _ _ _)) rfl ?_
              refine TT.nil ?_
              refine AT.act 21 (by kernel_rfl) rfl ?_
              refine LW.store rfl rfl (by repeat (first | exact Take.head _ _ | apply Take.tail)) (by first | decide | exact Nat.lt_of_sub_pos (by rfl) | (simp; done) | simp [devHead]) FactsRDev1.sz51 (OwnS.one hoS') ?_
              refine LW.nil ?_
              refine AT.backK (by kernel_rfl) ?_
              refine AT.done (by kernel_rfl) ?_
              refine NW.block ?_
              refine NW.then_ ?_
              refine CW.region ?_
              refine LW.move rfl rfl ?_
              refine LW.add64 rfl rfl (by omega) (by omega) rfl ?_
              refine LW.assign rfl rfl ?_
              refine LW.nil ?_
              refine NW.meet ((i + 1, ⟨bb8, bm6, vN', vS', r.nv ++ [.slice (some ⟨bm20, 0, none⟩) 64 64], r.sv ++ [.slice (some ⟨bm27, 0, none⟩) 64 64], chN', chS', [cr bm20 5 (zSec.map u8v)] ++ ([cr bm27 5 (zSec.map u8v)] ++ r.ar)⟩)) ?j5 ?e5 ?h5
              case j5 => exact ⟨⟨by omega, hoN', hoS', by
                rw [List.replicate_succ']
                exact (hsN.more (fun x hx => by simp [hx])).app (by simp) ⟨_, _, rfl, by decide, .inr ⟨_, rfl, .inr ⟨_, _, _, _, rfl, List.mem_cons_self, fun j v hj => by rw [Nat.zero_add]; exact hj⟩⟩⟩, by
                rw [List.replicate_succ']
                exact (hsS.more (fun x hx => by simp [hx])).app (by simp) ⟨_, _, rfl, by decide, .inr ⟨_, rfl, .inr ⟨_, _, _, _, rfl, List.mem_append_right _ (List.mem_append_left _ (List.mem_singleton.2 rfl)), fun j v hj => by rw [Nat.zero_add]; exact hj⟩⟩⟩⟩, by dsimp only; omega⟩
              case e5 => repeat (first | exact Env.Le.nil _ | refine Env.Le.cons rfl ?_)
              case h5 => exact Sub.heap_cons (by repeat (first | exact Take.head _ _ | apply Take.tail)) (Sub.heap_cons (by repeat (first | exact Take.head _ _ | apply Take.tail)) (Sub.heap_cons (by repeat (first | exact Take.head _ _ | apply Take.tail)) (Sub.heap_cons (by repeat (first | exact Take.head _ _ | apply Take.tail)) (Sub.heap_cons (Take.both (by repeat (first | exact Take.head _ _ | apply Take.tail)) (Take.both (by repeat (first | exact Take.head _ _ | apply Take.tail)) (by repeat (first | exact Take.head _ _ | apply Take.tail)))) (Sub.heap_nil _)))))
            exact ATs.nil
          refine ATs.cons rfl ?_ ?_
          · refine LW.buildSlice (vs := [_]) ⟨rfl, trivial⟩ rfl (by intro v hv; simp at hv; subst hv; rfl) Tryd.underlying51 FactsRDev1.info26 rfl (by decide) (by decide) rfl ?_
            intro bs28
            refine LW.nil ?_
            refine AT.back (fun _ s => Held.of s (by repeat (first | exact Sub.nil _ | refine Sub.cons1 (by repeat (first | exact Take.head _ _ | apply Take.tail)) ?_))) ?_
            refine AT.act 7 (by kernel_rfl) rfl ?_
            refine LW.buildSlice (vs := [_]) ⟨rfl, trivial⟩ rfl (by intro v hv; simp at hv; subst hv; rfl) Tryd.underlying51 FactsRDev1.info26 rfl (by decide) (by decide) rfl ?_
            intro bs21
            refine LW.nil ?_
            refine AT.back (fun _ s => Held.of s (by repeat (first | exact Sub.nil _ | refine Sub.cons1 (by repeat (first | exact Take.head _ _ | apply Take.tail)) ?_))) ?_
            refine AT.act 8 (by kernel_rfl) rfl ?_
            refine LW.append ([.slice (some ⟨bm20, 0, none⟩) 64 64]) rfl rfl Tryd.underlying51 Tryd.underlying51 (.inr ⟨_, rfl⟩) FactsRDev1.info26 rfl (hoN) (by repeat (first | exact Take.head _ _ | apply Take.tail)) (fun _ => lenOf_slice _ _ _ _) (first_rd (RdAt.row (by repeat (first | exact Take.head _ _ | apply Take.tail)) (fun j v hj => by rw [Nat.zero_add]; exact hj)) rfl (fun h => (by cases h))) (rfl) (by intro u hu; simp at hu; subst hu; rfl) (by omega) (by omega) rfl ?_
            intro vN' chN' hoN'
            refine LW.nil ?_
            refine AT.back (fun _ s => Held.of s (by repeat (first | exact Sub.nil _ | refine Sub.cons1 (by repeat (first | exact Take.head _ _ | apply Take.tail)) ?_))) ?_
            refine AT.act 15 (by kernel_rfl) rfl ?_
            refine LW.append ([.slice (some ⟨bm27, 0, none⟩) 64 64]) rfl rfl Tryd.underlying51 Tryd.underlying51 (.inr ⟨_, rfl⟩) FactsRDev1.info26 rfl (hoS) (by repeat (first | exact Take.head _ _ | apply Take.tail)) (fun _ => lenOf_slice _ _ _ _) (first_rd (RdAt.row (by repeat (first | exact Take.head _ _ | apply Take.tail)) (fun j v hj => by rw [Nat.zero_add]; exact hj)) rfl (fun h => (by cases h))) (rfl) (by intro u hu; simp at hu; subst hu; rfl) (by omega) (by omega) rfl ?_
            intro vS' chS' hoS'
            refine LW.nil ?_
            refine AT.back (fun _ s => Held.of s (by repeat (first | exact Sub.nil _ | refine Sub.cons1 (by repeat (first | exact Take.head _ _ | apply Take.tail)) ?_))) ?_
            refine AT.takes [(16, false), (17, false)] 4 (by kernel_rfl) (by kernel_rfl) rfl (by repeat (first | exact PO.body | refine PO.then_ ?_ | refine PO.block ?_ | refine PO.noGoto ?_)) (fun _ => (fun _ s => Held.of s (by repeat (first | exact Sub.nil _ | refine Sub.cons1 (by repeat (first | exact Take.head _ _ | apply Take.tail)) ?_)))) ?_
            refine TT.take rfl (Yl.nilPtr rfl) rfl ?_
            refine TT.take rfl (Yl.fieldAddr _ rfl (fun _ => FactsRDev1.fa71_0 _ _ _)) rfl ?_
            refine TT.nil ?_
            refine AT.act 18 (by kernel_rfl) rfl ?_
            refine LW.store rfl rfl (by repeat (first | exact Take.head _ _ | apply Take.tail)) (by first | decide | exact Nat.lt_of_sub_pos (by rfl) | (simp; done) | simp [devHead]) FactsRDev1.sz51 (OwnS.one hoN') ?_
            refine LW.nil ?_
            refine AT.backK (by kernel_rfl) ?_
            refine AT.takes [(19, false), (20, false)] 1 (by kernel_rfl) (by kernel_rfl) rfl (by repeat (first | exact PO.body | refine PO.then_ ?_ | refine PO.block ?_ | refine PO.noGoto ?_)) (fun hl _ _ => (no_tf (by kernel_rfl) hl).elim) ?_
            refine TT.take rfl (Yl.nilPtr rfl) rfl ?_
            refine TT.take rfl (Yl.fieldAddr _ rfl (fun _ => FactsRDev1.fa71_1 _ _ _)) rfl ?_
            refine TT.nil ?_
            refine AT.act 21 (by kernel_rfl) rfl ?_
            refine LW.store rfl rfl (by repeat (first | exact Take.head _ _ | apply Take.tail)) (by first | decide | exact Nat.lt_of_sub_pos (by rfl) | (simp; done) | simp [devHead]) FactsRDev1.sz51 (OwnS.one hoS') ?_
            refine LW.nil ?_
            refine AT.backK (by kernel_rfl) ?_
            refine AT.done (by kernel_rfl) ?_
            refine NW.block ?_
            refine NW.then_ ?_
            refine CW.region ?_
            refine LW.move rfl rfl ?_
            refine LW.add64 rfl rfl (by omega) (by omega) rfl ?_
            refine LW.assign rfl rfl ?_
            refine LW.nil ?_
            refine NW.meet ((i + 1, ⟨bb8, bm6, vN', vS', r.nv ++ [.slice (some ⟨bm20, 0, none⟩) 64 64], r.sv ++ [.slice (some ⟨bm27, 0, none⟩) 64 64], chN', chS', [cr bm20 5 (zSec.map u8v)] ++ ([cr bm27 5 (zSec.map u8v)] ++ r.ar)⟩)) ?j6 ?e6 ?h6
            case j6 => exact ⟨⟨by omega, hoN', hoS', by
              rw [List.replicate_succ']
              exact (hsN.more (fun x hx => by simp [hx])).app (by simp) ⟨_, _, rfl, by decide, .inr ⟨_, rfl, .inr ⟨_, _, _, _, rfl, List.mem_cons_self, fun j v hj => by rw [Nat.zero_add]; exact hj⟩⟩⟩, by
              rw [List.replicate_succ']
              exact (hsS.more (fun x hx => by simp [hx])).app (by simp) ⟨_, _, rfl, by decide, .inr ⟨_, rfl, .inr ⟨_, _, _, _, rfl, List.mem_append_right _ (List.mem_append_left _ (List.mem_singleton.2 rfl)), fun j v hj => by rw [Nat.zero_add]; exact hj⟩⟩⟩⟩, by dsimp only; omega⟩
            case e6 => repeat (first | exact Env.Le.nil _ | refine Env.Le.cons rfl ?_)
            case h6 => exact Sub.heap_cons (by repeat (first | exact Take.head _ _ | apply Take.tail)) (Sub.heap_cons (by repeat (first | exact Take.head _ _ | apply Take.tail)) (Sub.heap_cons (by repeat (first | exact Take.head _ _ | apply Take.tail)) (Sub.heap_cons (by repeat (first | exact Take.head _ _ | apply Take.tail)) (Sub.heap_cons (Take.both (by repeat (first | exact Take.head _ _ | apply Take.tail)) (Take.both (by repeat (first | exact Take.head _ _ | apply Take.tail)) (by repeat (first | exact Take.head _ _ | apply Take.tail)))) (Sub.heap_nil _)))))
          exact ATs.nil
        exact ATs.nil
      refine ATs.cons rfl ?_ ?_
      · refine LW.make (64) (64) (zSec.map u8v) rfl rfl (by first | rfl | omega) (by first | rfl | omega) Tryd.underlying26 FactsRDev1.info5 (by omega) (by omega) (by omega) (hz2) rfl ?_
        intro bm27
        refine LW.nil ?_
        refine AT.back (fun _ s => Held.of s (by repeat (first | exact Sub.nil _ | refine Sub.cons1 (by repeat (first | exact Take.head _ _ | apply Take.tail)) ?_))) ?_
        refine AT.all [6, 14] (by kernel_rfl) rfl ?_
        refine ATs.cons rfl ?_ ?_
        · refine LW.make (64) (64) (zSec.map u8v) rfl rfl (by first | rfl | omega) (by first | rfl | omega) Tryd.underlying26 FactsRDev1.info5 (by omega) (by omega) (by omega) (hz2) rfl ?_
          intro bm20
          refine LW.nil ?_
          refine AT.back (fun _ s => Held.of s (by repeat (first | exact Sub.nil _ | refine Sub.cons1 (by repeat (first | exact Take.head _ _ | apply Take.tail)) ?_))) ?_
          refine AT.all [7, 14] (by kernel_rfl) rfl ?_
          refine ATs.cons rfl ?_ ?_
          · refine LW.buildSlice (vs := [_]) ⟨rfl, trivial⟩ rfl (by intro v hv; simp at hv; subst hv; rfl) Tryd.underlying51 FactsRDev1.info26 rfl (by decide) (by decide) rfl ?_
            intro bs21
            refine LW.nil ?_
            refine AT.back (fun _ s => Held.of s (by repeat (first | exact Sub.nil _ | refine Sub.cons1 (by repeat (first | exact Take.head _ _ | apply Take.tail)) ?_))) ?_
            refine AT.all [8, 14] (by kernel_rfl) rfl ?_
            refine ATs.cons rfl ?_ ?_
            · refine LW.append ([.slice (some ⟨bm20, 0, none⟩) 64 64]) rfl rfl Tryd.underlying51 Tryd.underlying51 (.inr ⟨_, rfl⟩) FactsRDev1.info26 rfl (hoN) (by repeat (first | exact Take.head _ _ | apply Take.tail)) (fun _ => lenOf_slice _ _ _ _) (first_rd (RdAt.row (by repeat (first | exact Take.head _ _ | apply Take.tail)) (fun j v hj => by rw [Nat.zero_add]; exact hj)) rfl (fun h => (by cases h))) (rfl) (by intro u hu; simp at hu; subst hu; rfl) (by omega) (by omega) rfl ?_
              intro vN' chN' hoN'
              refine LW.nil ?_
              refine AT.back (fun _ s => Held.of s (by repeat (first | exact Sub.nil _ | refine Sub.cons1 (by repeat (first | exact Take.head _ _ | apply Take.tail)) ?_))) ?_
              refine AT.act 14 (by kernel_rfl) rfl ?_
              refine LW.buildSlice (vs := [_]) ⟨rfl, trivial⟩ rfl (by intro v hv; simp at hv; subst hv; rfl) Tryd.underlying51 FactsRDev1.info26 rfl (by decide) (by decide) rfl ?_
              intro bs28
              refine LW.nil ?_
              refine AT.back (fun _ s => Held.of s (by repeat (first | exact Sub.nil _ | refine Sub.cons1 (by repeat (first | exact Take.head _ _ | apply Take.tail)) ?_))) ?_
              refine AT.act 15 (by kernel_rfl) rfl ?_
              refine LW.append ([.slice (some ⟨bm27, 0, none⟩) 64 64]) rfl rfl Tryd.underlying51 Tryd.underlying51 (.inr ⟨_, rfl⟩) FactsRDev1.info26 rfl (hoS) (by repeat (first | exact Take.head _ _ | apply Take.tail)) (fun _ => lenOf_slice _ _ _ _) (first_rd (RdAt.row (by repeat (first | exact Take.head _ _ | apply Take.tail)) (fun j v hj => by rw [Nat.zero_add]; exact hj)) rfl (fun h => (by cases h))) (rfl) (by intro u hu; simp at hu; subst hu; rfl) (by omega) (by omega) rfl ?_
              intro vS' chS' hoS'
              refine LW.nil ?_
              refine AT.back (fun _ s => Held.of s (by repeat (first | exact Sub.nil _ | refine Sub.cons1 (by repeat (first | exact Take.head _ _ | apply Take.tail)) ?_))) ?_
              refine AT.takes [(16, false), (17, false)] 4 (by kernel_rfl) (by kernel_rfl) rfl (by repeat (first | exact PO.body | refine PO.then_ ?_ | refine PO.block ?_ | refine PO.noGoto ?_)) (fun _ => (fun _ s => Held.of s (by repeat (first | exact Sub.nil _ | refine Sub.cons1 (by repeat (first | exact Take.head _ _ | apply Take.tail)) ?_)))) ?_
              refine TT.take rfl (Yl.nilPtr rfl) rfl ?_
              refine TT.take rfl (Yl.fieldAddr _ rfl (fun _ => FactsRDev1.fa71_0 _ _ _)) rfl ?_
              refine TT.nil ?_
              refine AT.act 18 (by kernel_rfl) rfl ?_
              refine LW.store rfl rfl (by repeat (first | exact Take.head _ _ | apply Take.tail)) (by first | decide | exact Nat.lt_of_sub_pos (by rfl) | (simp; done) | simp [devHead]) FactsRDev1.sz51 (OwnS.one hoN') ?_
              refine LW.nil ?_
              refine AT.backK (by kernel_rfl) ?_
              refine AT.takes [(19, false), (20, false)] 1 (by kernel_rfl) (by kernel_rfl) rfl (by repeat (first | exact PO.body | refine PO.then_ ?_ | refine PO.block ?_ | refine PO.noGoto ?_)) (fun hl _ _ => (no_tf (by kernel_rfl) hl).elim) ?_
              refine TT.take rfl (Yl.nilPtr rfl) rfl ?_
              refine TT.take rfl (Yl.fieldAddr _ rfl (fun _ => FactsRDev1.fa71_1 _ _ _)) rfl ?_
              refine TT.nil ?_
              refine AT.act 21 (by kernel_rfl) rfl ?_
              refine LW.store rfl rfl (by repeat (first | exact Take.head _ _ | apply Take.tail)) (by first | decide | exact Nat.lt_of_sub_pos (by rfl) | (simp; done) | simp [devHead]) FactsRDev1.sz51 (OwnS.one hoS') ?_
              refine LW.nil ?_
              refine AT.backK (by kernel_rfl) ?_
              refine AT.done (by kernel_rfl) ?_
              refine NW.block ?_
              refine NW.then_ ?_
              refine CW.region ?_
              refine LW.move rfl rfl ?_
              refine LW.add64 rfl rfl (by omega) (by omega) rfl ?_
              refine LW.assign rfl rfl ?_
              refine LW.nil ?_
              refine NW.meet ((i + 1, ⟨bb8, bm6, vN', vS', r.nv ++ [.slice (some ⟨bm20, 0, none⟩) 64 64], r.sv ++ [.slice (some ⟨bm27, 0, none⟩) 64 64], chN', chS', [cr bm20 5 (zSec.map u8v)] ++ ([cr bm27 5 (zSec.map u8v)] ++ r.ar)⟩)) ?j7 ?e7 ?h7
              case j7 => exact ⟨⟨by omega, hoN', hoS', by
                rw [List.replicate_succ']
                exact (hsN.more (fun x hx => by simp [hx])).app (by simp) ⟨_, _, rfl, by decide, .inr ⟨_, rfl, .inr ⟨_, _, _, _, rfl, List.mem_cons_self, fun j v hj => by rw [Nat.zero_add]; exact hj⟩⟩⟩, by
                rw [List.replicate_succ']
                exact (hsS.more (fun x hx => by simp [hx])).app (by simp) ⟨_, _, rfl, by decide, .inr ⟨_, rfl, .inr ⟨_, _, _, _, rfl, List.mem_append_right _ (List.mem_append_left _ (List.mem_singleton.2 rfl)), fun j v hj => by rw [Nat.zero_add]; exact hj⟩⟩⟩⟩, by dsimp only; omega⟩
              case e7 => repeat (first | exact Env.Le.nil _ | refine Env.Le.cons rfl ?_)
              case h7 => exact Sub.heap_cons (by repeat (first | exact Take.head _ _ | apply Take.tail)) (Sub.heap_cons (by repeat (first | exact Take.head _ _ | apply Take.tail)) (Sub.heap_cons (by repeat (first | exact Take.head _ _ | apply Take.tail)) (Sub.heap_cons (by repeat (first | exact Take.head _ _ | apply Take.tail)) (Sub.heap_cons (Take.both (by repeat (first | exact Take.head _ _ | apply Take.tail)) (Take.both (by repeat (first | exact Take.head _ _ | apply Take.tail)) (by repeat (first | exact Take.head _ _ | apply Take.tail)))) (Sub.heap_nil _)))))
            refine ATs.cons rfl ?_ ?_
            · refine LW.buildSlice (vs := [_]) ⟨rfl, trivial⟩ rfl (by intro v hv; simp at hv; subst hv; rfl) Tryd.underlying51 FactsRDev1.info26 rfl (by decide) (by decide) rfl ?_
              intro bs28
              refine LW.nil ?_
              refine AT.back (fun _ s => Held.of s (by repeat (first | exact Sub.nil _ | refine Sub.cons1 (by repeat (first | exact Take.head _ _ | apply Take.tail)) ?_))) ?_
              refine AT.act 8 (by kernel_rfl) rfl ?_
              refine LW.append ([.slice (some ⟨bm20, 0, none⟩) 64 64]) rfl rfl Tryd.underlying51 Tryd.underlying51 (.inr ⟨_, rfl⟩) FactsRDev1.info26 rfl (hoN) (by repeat (first | exact Take.head _ _ | apply Take.tail)) (fun _ => lenOf_slice _ _ _ _) (first_rd (RdAt.row (by repeat (first | exact Take.head _ _ | apply Take.tail)) (fun j v hj => by rw [Nat.zero_add]; exact hj)) rfl (fun h => (by cases h))) (rfl) (by intro u hu; simp at hu; subst hu; rfl) (by omega) (by omega) rfl ?_
              intro vN' chN' hoN'
              refine LW.nil ?_
              refine AT.back (fun _ s => Held.of s (by repeat (first | exact Sub.nil _ | refine Sub.cons1 (by repeat (first | exact Take.head _ _ | apply Take.tail)) ?_))) ?_
              refine AT.act 15 (by kernel_rfl) rfl ?_
              refine LW.append ([.slice (some ⟨bm27, 0, none⟩) 64 64]) rfl rfl Tryd.underlying51 Tryd.underlying51 (.inr ⟨_, rfl⟩) FactsRDev1.info26 rfl (hoS) (by repeat (first | exact Take.head _ _ | apply Take.tail)) (fun _ => lenOf_slice _ _ _ _) (first_rd (RdAt.row (by repeat (first | exact Take.head _ _ | apply Take.tail)) (fun j v hj => by rw [Nat.zero_add]; exact hj)) rfl (fun h => (by cases h))) (rfl) (by intro u hu; simp at hu; subst hu; rfl) (by omega) (by omega) rfl ?_
              intro vS' chS' hoS'
              refine LW.nil ?_
              refine AT.back (fun _ s => Held.of s (by repeat (first | exact Sub.nil _ | refine Sub.cons1 (by repeat (first | exact Take.head _ _ | apply Take.tail)) ?_))) ?_
              refine AT.takes [(16, false), (17, false)] 4 (by kernel_rfl) (by kernel_rfl) rfl (by repeat (first | exact PO.body | refine PO.then_ ?_ | refine PO.block ?_ | refine PO.noGoto ?_)) (fun _ => (fun _ s => Held.of s (by repeat (first | exact Sub.nil _ | refine Sub.cons1 (by repeat (first | exact Take.head _ _ | apply Take.tail)) ?_)))) ?_
              refine TT.take rfl (Yl.nilPtr rfl) rfl ?_
              refine TT.take rfl (Yl.fieldAddr _ rfl (fun _ => FactsRDev1.fa71_0 _ _ _)) rfl ?_
              refine TT.nil ?_
              refine AT.act 18 (by kernel_rfl) rfl ?_
              refine LW.store rfl rfl (by repeat (first | exact Take.head _ _ | apply Take.tail)) (by first | decide | exact Nat.lt_of_sub_pos (by rfl) | (simp; done) | simp [devHead]) FactsRDev1.sz51 (OwnS.one hoN') ?_
              refine LW.nil ?_
              refine AT.backK (by kernel_rfl) ?_
              refine AT.takes [(19, false), (20, false)] 1 (by kernel_rfl) (by kernel_rfl) rfl (by repeat (first | exact PO.body | refine PO.then_ ?_ | refine PO.block ?_ | refine PO.noGoto ?_)) (fun hl _ _ => (no_tf (by kernel_rfl) hl).elim) ?_
              refine TT.take rfl (Yl.nilPtr rfl) rfl ?_
              refine TT.take rfl (Yl.fieldAddr _ rfl (fun _ => FactsRDev1.fa71_1 _ _ _)) rfl ?_
              refine TT.nil ?_
              refine AT.act 21 (by kernel_rfl) rfl ?_
              refine LW.store rfl rfl (by repeat (first | exact Take.head _ _ | apply Take.tail)) (by first | decide | exact Nat.lt_of_sub_pos (by rfl) | (simp; done) | simp [devHead]) FactsRDev1.sz51 (OwnS.one hoS') ?_
              refine LW.nil ?_
              refine AT.backK (by kernel_rfl) ?_
              refine AT.done (by kernel_rfl) ?_
              refine NW.block ?_
              refine NW.then_ ?_
              refine CW.region ?_
              refine LW.move rfl rfl ?_
              refine LW.add64 rfl rfl (by omega) (by omega) rfl ?_
              refine LW.assign rfl rfl ?_
              refine LW.nil ?_
              refine NW.meet ((i + 1, ⟨bb8, bm6, vN', vS', r.nv ++ [.slice (some ⟨bm20, 0, none⟩) 64 64], r.sv ++ [.slice (some ⟨bm27, 0, none⟩) 64 64], chN', chS', [cr bm20 5 (zSec.map u8v)] ++ ([cr bm27 5 (zSec.map u8v)] ++ r.ar)⟩)) ?j8 ?e8 ?h8
              case j8 => exact ⟨⟨by omega, hoN', hoS', by
                rw [List.replicate_succ']
                exact (hsN.more (fun x hx => by simp [hx])).app (by simp) ⟨_, _, rfl, by decide, .inr ⟨_, rfl, .inr ⟨_, _, _, _, rfl, List.mem_cons_self, fun j v hj => by rw [Nat.zero_add]; exact hj⟩⟩⟩, by
                rw [List.replicate_succ']
                exact (hsS.more (fun x hx => by simp [hx])).app (by simp) ⟨_, _, rfl, by decide, .inr ⟨_, rfl, .inr ⟨_, _, _, _, rfl, List.mem_append_right _ (List.mem_append_left _ (List.mem_singleton.2 rfl)), fun j v hj => by rw [Nat.zero_add]; exact hj⟩⟩⟩⟩, by dsimp only; omega⟩
              case e8 => repeat (first | exact Env.Le.nil _ | refine Env.Le.cons rfl ?_)
              case h8 => exact Sub.heap_cons (by repeat (first | exact Take.head _ _ | apply Take.tail)) (Sub.heap_cons (by repeat (first | exact Take.head _ _ | apply Take.tail)) (Sub.heap_cons (by repeat (first | exact Take.head _ _ | apply Take.tail)) (Sub.heap_cons (by repeat (first | exact Take.head _ _ | apply Take.tail)) (Sub.heap_cons (Take.both (by repeat (first | exact Take.head _ _ | apply Take.tail)) (Take.both (by repeat (first | exact Take.head _ _ | apply Take.tail)) (by repeat (first | exact Take.head _ _ | apply Take.tail)))) (Sub.heap_nil _)))))
            exact ATs.nil
          refine ATs.cons rfl ?_ ?_
          · refine LW.buildSlice (vs := [_]) ⟨rfl, trivial⟩ rfl (by intro v hv; simp at hv; subst hv; rfl) Tryd.underlying51 FactsRDev1.info26 rfl (by decide) (by decide) rfl ?_
            intro bs28
            refine LW.nil ?_
            refine AT.back (fun _ s => Held.of s (by repeat (first | exact Sub.nil _ | refine Sub.cons1 (by repeat (first | exact Take.head _ _ | apply Take.tail)) ?_))) ?_
            refine AT.act 7 (by kernel_rfl) rfl ?_
            refine LW.buildSlice (vs := [_]) ⟨rfl, trivial⟩ rfl (by intro v hv; simp at hv; subst hv; rfl) Tryd.underlying51 FactsRDev1.info26 rfl (by decide) (by decide) rfl ?_
            intro bs21
            refine LW.nil ?_
            refine AT.back (fun _ s => Held.of s (by repeat (first | exact Sub.nil _ | refine Sub.cons1 (by repeat (first | exact Take.head _ _ | apply Take.tail)) ?_))) ?_
            refine AT.act 8 (by kernel_rfl) rfl ?_
            refine LW.append ([.slice (some ⟨bm20, 0, none⟩) 64 64]) rfl rfl Tryd.underlying51 Tryd.underlying51 (.inr ⟨_, rfl⟩) FactsRDev1.info26 rfl (hoN) (by repeat (first | exact Take.head _ _ | apply Take.tail)) (fun _ => lenOf_slice _ _ _ _) (first_rd (RdAt.row (by repeat (first | exact Take.head _ _ | apply Take.tail)) (fun j v hj => by rw [Nat.zero_add]; exact hj)) rfl (fun h => (by cases h))) (rfl) (by intro u hu; simp at hu; subst hu; rfl) (by omega) (by omega) rfl ?_
            intro vN' chN' hoN'
            refine LW.nil ?_
            refine AT.back (fun _ s => Held.of s (by repeat (first | exact Sub.nil _ | refine Sub.cons1 (by repeat (first | exact Take.head _ _ | apply Take.tail)) ?_))) ?_
            refine AT.act 15 (by kernel_rfl) rfl ?_
            refine LW.append ([.slice (some ⟨bm27, 0, none⟩) 64 64]) rfl rfl Tryd.underlying51 Tryd.underlying51 (.inr ⟨_, rfl⟩) FactsRDev1.info26 rfl (hoS) (by repeat (first | exact Take.head _ _ | apply Take.tail)) (fun _ => lenOf_slice _ _ _ _) (first_rd (RdAt.row (by repeat (first | exact Take.head _ _ | apply Take.tail)) (fun j v hj => by rw [Nat.zero_add]; exact hj)) rfl (fun h => (by cases h))) (rfl) (by intro u hu; simp at hu; subst hu; rfl) (by omega) (by omega) rfl ?_
            intro vS' chS' hoS'
            refine LW.nil ?_
            refine AT.back (fun _ s => Held.of s (by repeat (first | exact Sub.nil _ | refine Sub.cons1 (by repeat (first | exact Take.head _ _ | apply Take.tail)) ?_))) ?_
            refine AT.takes [(16, false), (17, false)] 4 (by kernel_rfl) (by kernel_rfl) rfl (by repeat (first | exact PO.body | refine PO.then_ ?_ | refine PO.block ?_ | refine PO.noGoto ?_)) (fun _ => (fun _ s => Held.of s (by repeat (first | exact Sub.nil _ | refine Sub.cons1 (by repeat (first | exact Take.head _ _ | apply Take.tail)) ?_)))) ?_
            refine TT.take rfl (Yl.nilPtr rfl) rfl ?_
            refine TT.take rfl (Yl.fieldAddr _ rfl (fun _ => FactsRDev1.fa71_0 _ _ _)) rfl ?_
            refine TT.nil ?_
            refine AT.act 18 (by kernel_rfl) rfl ?_
            refine LW.store rfl rfl (by repeat (first | exact Take.head _ _ | apply Take.tail)) (by first | decide | exact Nat.lt_of_sub_pos (by rfl) | (simp; done) | simp [devHead]) FactsRDev1.sz51 (OwnS.one hoN') ?_
            refine LW.nil ?_
            refine AT.backK (by kernel_rfl) ?_
            refine AT.takes [(19, false), (20, false)] 1 (by kernel_rfl) (by kernel_rfl) rfl (by repeat (first | exact PO.body | refine PO.then_ ?_ | refine PO.block ?_ | refine PO.noGoto ?_)) (fun hl _ _ => (no_tf (by kernel_rfl) hl).elim) ?_
            refine TT.take rfl (Yl.nilPtr rfl) rfl ?_
            refine TT.take rfl (Yl.fieldAddr _ rfl (fun _ => FactsRDev1.fa71_1 _ _ _)) rfl ?_
            refine TT.nil ?_
            refine AT.act 21 (by kernel_rfl) rfl ?_
            refine LW.store rfl rfl (by repeat (first | exact Take.head _ _ | apply Take.tail)) (by first | decide | exact Nat.lt_of_sub_pos (by rfl) | (simp; done) | simp [devHead]) FactsRDev1.sz51 (OwnS.one hoS') ?_
            refine LW.nil ?_
            refine AT.backK (by kernel_rfl) ?_
            refine AT.done (by kernel_rfl) ?_
            refine NW.block ?_
            refine NW.then_ ?_
            refine CW.region ?_
            refine LW.move rfl rfl ?_
            refine LW.add64 rfl rfl (by omega) (by omega) rfl ?_
            refine LW.assign rfl rfl ?_
            refine LW.nil ?_
            refine NW.meet ((i + 1, ⟨bb8, bm6, vN', vS', r.nv ++ [.slice (some ⟨bm20, 0, none⟩) 64 64], r.sv ++ [.slice (some ⟨bm27, 0, none⟩) 64 64], chN', chS', [cr bm20 5 (zSec.map u8v)] ++ ([cr bm27 5 (zSec.map u8v)] ++ r.ar)⟩)) ?j9 ?e9 ?h9
            case j9 => exact ⟨⟨by omega, hoN', hoS', by
              rw [List.replicate_succ']
              exact (hsN.more (fun x hx => by simp [hx])).app (by simp) ⟨_, _, rfl, by decide, .inr ⟨_, rfl, .inr ⟨_, _, _, _, rfl, List.mem_cons_self, fun j v hj => by rw [Nat.zero_add]; exact hj⟩⟩⟩, by
              rw [List.replicate_succ']
              exact (hsS.more (fun x hx => by simp [hx])).app (by simp) ⟨_, _, rfl, by decide, .inr ⟨_, rfl, .inr ⟨_, _, _, _, rfl, List.mem_append_right _ (List.mem_append_left _ (List.mem_singleton.2 rfl)), fun j v hj => by rw [Nat.zero_add]; exact hj⟩⟩⟩⟩, by dsimp only; omega⟩
            case e9 => repeat (first | exact Env.Le.nil _ | refine Env.Le.cons rfl ?_)
            case h9 => exact Sub.heap_cons (by repeat (first | exact Take.head _ _ | apply Take.tail)) (Sub.heap_cons (by repeat (first | exact Take.head _ _ | apply Take.tail)) (Sub.heap_cons (by repeat (first | exact Take.head _ _ | apply Take.tail)) (Sub.heap_cons (by repeat (first | exact Take.head _ _ | apply Take.tail)) (Sub.heap_cons (Take.both (by repeat (first | exact Take.head _ _ | apply Take.tail)) (Take.both (by repeat (first | exact Take.head _ _ | apply Take.tail)) (by repeat (first | exact Take.head _ _ | apply Take.tail)))) (Sub.heap_nil _)))))
          exact ATs.nil
        refine ATs.cons rfl ?_ ?_
        · refine LW.buildSlice (vs := [_]) ⟨rfl, trivial⟩ rfl (by intro v hv; simp at hv; subst hv; rfl) Tryd.underlying51 FactsRDev1.info26 rfl (by decide) (by decide) rfl ?_
          intro bs28
          refine LW.nil ?_
          refine AT.back (fun _ s => Held.of s (by repeat (first | exact Sub.nil _ | refine Sub.cons1 (by repeat (first | exact Take.head _ _ | apply Take.tail)) ?_))) ?_
          refine AT.act 6 (by kernel_rfl) rfl ?_
          refine LW.make (64) (64) (zSec.map u8v) rfl rfl (by first | rfl | omega) (by first | rfl | omega) Tryd.underlying26 FactsRDev1.info5 (by omega) (by omega) (by omega) (hz2) rfl ?_
          intro bm20
          refine LW.nil ?_
          refine AT.back (fun _ s => Held.of s (by repeat (first | exact Sub.nil _ | refine Sub.cons1 (by repeat (first | exact Take.head _ _ | apply Take.tail)) ?_))) ?_
          refine AT.act 7 (by kernel_rfl) rfl ?_
          refine LW.buildSlice (vs := [_]) ⟨rfl, trivial⟩ rfl (by intro v hv; simp at hv; subst hv; rfl) Tryd.underlying51 FactsRDev1.info26 rfl (by decide) (by decide) rfl ?_
          intro bs21
          refine LW.nil ?_
          refine AT.back (fun _ s => Held.of s (by repeat (first | exact Sub.nil _ | refine Sub.cons1 (by repeat (first | exact Take.head _ _ | apply Take.tail)) ?_))) ?_
          refine AT.act 8 (by kernel_rfl) rfl ?_
          refine LW.append ([.slice (some ⟨bm20, 0, none⟩) 64 64]) rfl rfl Tryd.underlying51 Tryd.underlying51 (.inr ⟨_, rfl⟩) FactsRDev1.info26 rfl (hoN) (by repeat (first | exact Take.head _ _ | apply Take.tail)) (fun _ => lenOf_slice _ _ _ _) (first_rd (RdAt.row (by repeat (first | exact Take.head _ _ | apply Take.tail)) (fun j v hj => by rw [Nat.zero_add]; exact hj)) rfl (fun h => (by cases h))) (rfl) (by intro u hu; simp at hu; subst hu; rfl) (by omega) (by omega) rfl ?_
          intro vN' chN' hoN'
          refine LW.nil ?_
          refine AT.back (fun _ s => Held.of s (by repeat (first | exact Sub.nil _ | refine Sub.cons1 (by repeat (first | exact Take.head _ _ | apply Take.tail)) ?_))) ?_
          refine AT.act 15 (by kernel_rfl) rfl ?_
          refine LW.append ([.slice (some ⟨bm27, 0, none⟩) 64 64]) rfl rfl Tryd.underlying51 Tryd.underlying51 (.inr ⟨_, rfl⟩) FactsRDev1.info26 rfl (hoS) (by repeat (first | exact Take.head _ _ | apply Take.tail)) (fun _ => lenOf_slice _ _ _ _) (first_rd (RdAt.row (by repeat (first | exact Take.head _ _ | apply Take.tail)) (fun j v hj => by rw [Nat.zero_add]; exact hj)) rfl (fun h => (by cases h))) (rfl) (by intro u hu; simp at hu; subst hu; rfl) (by omega) (by omega) rfl ?_
          intro vS' chS' hoS'
          refine LW.nil ?_
          refine AT.back (fun _ s => Held.of s (by repeat (first | exact Sub.nil _ | refine Sub.cons1 (by repeat (first | exact Take.head _ _ | apply Take.tail)) ?_))) ?_
          refine AT.takes [(16, false), (17, false)] 4 (by kernel_rfl) (by kernel_rfl) rfl (by repeat (first | exact PO.body | refine PO.then_ ?_ | refine PO.block ?_ | refine PO.noGoto ?_)) (fun _ => (fun _ s => Held.of s (by repeat (first | exact Sub.nil _ | refine Sub.cons1 (by repeat (first | exact Take.head _ _ | apply Take.tail)) ?_)))) ?_
          refine TT.take rfl (Yl.nilPtr rfl) rfl ?_
          refine TT.take rfl (Yl.fieldAddr _ rfl (fun _ => FactsRDev1.fa71_0 _ _ _)) rfl ?_
          refine TT.nil ?_
          refine AT.act 18 (by kernel_rfl) rfl ?_
          refine LW.store rfl rfl (by repeat (first | exact Take.head _ _ | apply Take.tail)) (by first | decide | exact Nat.lt_of_sub_pos (by rfl) | (simp; done) | simp [devHead]) FactsRDev1.sz51 (OwnS.one hoN') ?_
          refine LW.nil ?_
          refine AT.backK (by kernel_rfl) ?_
          refine AT.takes [(19, false), (20, false)] 1 (by kernel_rfl) (by kernel_rfl) rfl (by repeat (first | exact PO.body | refine PO.then_ ?_ | refine PO.block ?_ | refine PO.noGoto ?_)) (fun hl _ _ => (no_tf (by kernel_rfl) hl).elim) ?_
          refine TT.take rfl (Yl.nilPtr rfl) rfl ?_
          refine TT.take rfl (Yl.fieldAddr _ rfl (fun _ => FactsRDev1.fa71_1 _ _ _)) rfl ?_
          refine TT.nil ?_
          refine AT.act 21 (by kernel_rfl) rfl ?_
          refine LW.store rfl rfl (by repeat (first | exact Take.head _ _ | apply Take.tail)) (by first | decide | exact Nat.lt_of_sub_pos (by rfl) | (simp; done) | simp [devHead]) FactsRDev1.sz51 (OwnS.one hoS') ?_
          refine LW.nil ?_
          refine AT.backK (by kernel_rfl) ?_
          refine AT.done (by kernel_rfl) ?_
          refine NW.block ?_
          refine NW.then_ ?_
          refine CW.region ?_
          refine LW.move rfl rfl ?_
          refine LW.add64 rfl rfl (by omega) (by omega) rfl ?_
          refine LW.assign rfl rfl ?_
          refine LW.nil ?_
          refine NW.meet ((i + 1, ⟨bb8, bm6, vN', vS', r.nv ++ [.slice (some ⟨bm20, 0, none⟩) 64 64], r.sv ++ [.slice (some ⟨bm27, 0, none⟩) 64 64], chN', chS', [cr bm20 5 (zSec.map u8v)] ++ ([cr bm27 5 (zSec.map u8v)] ++ r.ar)⟩)) ?j10 ?e10 ?h10
          case j10 => exact ⟨⟨by omega, hoN', hoS', by
            rw [List.replicate_succ']
            exact (hsN.more (fun x hx => by simp [hx])).app (by simp) ⟨_, _, rfl, by decide, .inr ⟨_, rfl, .inr ⟨_, _, _, _, rfl, List.mem_cons_self, fun j v hj => by rw [Nat.zero_add]; exact hj⟩⟩⟩, by
            rw [List.replicate_succ']
            exact (hsS.more (fun x hx => by simp [hx])).app (by simp) ⟨_, _, rfl, by decide, .inr ⟨_, rfl, .inr ⟨_, _, _, _, rfl, List.mem_append_right _ (List.mem_append_left _ (List.mem_singleton.2 rfl)), fun j v hj => by rw [Nat.zero_add]; exact hj⟩⟩⟩⟩, by dsimp only; omega⟩
          case e10 => repeat (first | exact Env.Le.nil _ | refine Env.Le.cons rfl ?_)
          case h10 => exact Sub.heap_cons (by repeat (first | exact Take.head _ _ | apply Take.tail)) (Sub.heap_cons (by repeat (first | exact Take.head _ _ | apply Take.tail)) (Sub.heap_cons (by repeat (first | exact Take.head _ _ | apply Take.tail)) (Sub.heap_cons (by repeat (first | exact Take.head _ _ | apply Take.tail)) (Sub.heap_cons (Take.both (by repeat (first | exact Take.head _ _ | apply Take.tail)) (Take.both (by repeat (first | exact Take.head _ _ | apply Take.tail)) (by repeat (first | exact Take.head _ _ | apply Take.tail)))) (Sub.heap_nil _)))))
        exact ATs.nil
      exact ATs.nil
    · replace hc11 := of_decide_eq_false hc11
      try dsimp only at hc11
      have hin : i = n := by omega
      subst hin
      refine CW.exit ?_
      refine NW.then_exit ?_
      refine NW.then_exit ?_
      refine NW.block_exit ?_
      refine NW.then_ ?_
      refine CW.seq ?_
      refine CW.region ?_
      refine LW.move rfl rfl ?_
      refine LW.assign rfl rfl ?_
      refine LW.nil ?_
      refine NW.then_ ?_
      refine CW.ret ?_
      refine NW.ret1 rfl rfl ⟨_, ⟨{ r with q := bb8, bl := bm6 }, rfl, ⟨hoN, hoS, hsN, hsS, DevS.Ok.zero h0 h1, rfl⟩, rfl⟩, ?_⟩
      exact Sub.take (p := [_]) (by repeat (first | exact Take.head _ _ | apply Take.tail)) (Sub.app (by repeat (first | exact Take.head _ _ | apply Take.tail)) (Sub.app (by repeat (first | exact Take.head _ _ | apply Take.tail)) (Sub.take (p := [_]) (by repeat (first | exact Take.head _ _ | apply Take.tail)) (Sub.one (by repeat (first | exact Take.head _ _ | apply Take.tail))))))

theorem rdev_Down (r : RD) (n : Nat) (s : DevS) (hr : r.Ok W B n s) : Spec Tryd.prog W B 41 [.pointer (some ⟨r.q, 0, none⟩)] (r.rows n s) (fun v post => v = .bool s.down ∧ post = r.rows n s) := by
  have hd := hr.dn
  rw [hd]
  cases hf : s.fused
  ·
    refine Spec.enter ([[cr r.q 71 (rdHead r n s)], r.chN, r.chS, [cr r.bl 4 (s.loose.map .bool)], r.ar]) Tryd.func41 rfl Tryd.ntmps41 rfl (by first | rfl | simp [RD.rows, rdHead]) (fun w0 => ?_)
    refine CW.seq ?_
    refine CW.region ?_
    refine LW.assign rfl rfl ?_
    refine LW.nil ?_
    refine NW.then_ ?_
    refine CW.seq ?_
    refine CW.region ?_
    refine LW.move rfl rfl ?_
    refine LW.nilPtr rfl rfl ?_
    refine LW.fieldAddr _ rfl (fun _ => FactsRDev1.fa71_4 _ _ _) rfl ?_
    refine LW.load (v := .bool false) rfl (by repeat (first | exact Take.head _ _ | apply Take.tail)) (by simp [rdHead, hf]) FactsRDev1.one4 rfl ?_
    refine LW.move rfl rfl ?_
    refine LW.off 7 rfl rfl rfl rfl ?_
    refine LW.off 7 rfl rfl rfl rfl ?_
    refine LW.off 7 rfl rfl rfl rfl ?_
    refine LW.off 7 rfl rfl rfl rfl ?_
    refine LW.off 7 rfl rfl rfl rfl ?_
    refine LW.pickF rfl rfl rfl ?_
    refine LW.assign rfl rfl ?_
    refine LW.nil ?_
    refine NW.then_ ?_
    refine CW.ret ?_
    refine NW.ret1 rfl rfl ⟨_, ⟨rfl, rfl⟩, ?_⟩
    exact Sub.one (Take.rd (by repeat (first | exact Take.head _ _ | apply Take.tail)) (by repeat (first | exact Take.head _ _ | apply Take.tail)) (by repeat (first | exact Take.head _ _ | apply Take.tail)) (by repeat (first | exact Take.head _ _ | apply Take.tail)) (by repeat (first | exact Take.head _ _ | apply Take.tail)))
  ·
    refine Spec.enter ([[cr r.q 71 (rdHead r n s)], r.chN, r.chS, [cr r.bl 4 (s.loose.map .bool)], r.ar]) Tryd.func41 rfl Tryd.ntmps41 rfl (by first | rfl | simp [RD.rows, rdHead]) (fun w0 => ?_)
    refine CW.seq ?_
    refine CW.region ?_
    refine LW.assign rfl rfl ?_
    refine LW.nil ?_
    refine NW.then_ ?_
    refine CW.seq ?_
    refine CW.region ?_
    refine LW.move rfl rfl ?_
    refine LW.nilPtr rfl rfl ?_
    refine LW.fieldAddr _ rfl (fun _ => FactsRDev1.fa71_4 _ _ _) rfl ?_
    refine LW.load (v := .bool true) rfl (by repeat (first | exact Take.head _ _ | apply Take.tail)) (by simp [rdHead, hf]) FactsRDev1.one4 rfl ?_
    refine LW.move rfl rfl ?_
    refine LW.on 7 rfl rfl ?_
    refine LW.move rfl rfl ?_
    refine LW.on 7 rfl rfl ?_
    refine LW.nilPtr rfl rfl ?_
    refine LW.on 7 rfl rfl ?_
    refine LW.fieldAddr _ rfl (fun _ => FactsRDev1.fa71_3 _ _ _) rfl ?_
    refine LW.on 7 rfl rfl ?_
    refine LW.load (v := .int .i64 s.fuse) rfl (by repeat (first | exact Take.head _ _ | apply Take.tail)) (by simp [rdHead]) FactsRDev1.one3 rfl ?_
    refine LW.on 7 rfl rfl ?_
    refine LW.leq (decide (s.fuse ≤ 0)) rfl rfl (rfl) rfl ?_
    refine LW.pickT rfl rfl rfl ?_
    refine LW.assign rfl rfl ?_
    refine LW.nil ?_
    refine NW.then_ ?_
    refine CW.ret ?_
    refine NW.ret1 rfl rfl ⟨_, ⟨by simp, rfl⟩, ?_⟩
    exact Sub.one (Take.rd (by repeat (first | exact Take.head _ _ | apply Take.tail)) (by repeat (first | exact Take.head _ _ | apply Take.tail)) (by repeat (first | exact Take.head _ _ | apply Take.tail)) (by repeat (first | exact Take.head _ _ | apply Take.tail)) (by repeat (first | exact Take.head _ _ | apply Take.tail)))
end
end Go.Proofs.YtmgpldgldgdenaaDoor
