/-
  THE METHODS OF A DEVICE: their contracts.
-/
import Derived.Test.YtemdebmfdhamgaaFmtDev1
namespace Go.Proofs.YtemdebmfdhamgaaFmt
open Go.RowKit
namespace FactsDev2
theorem fa82_0 (b o : Nat) (w : World) : (Instr.fieldAt 82 (.pointer (some ⟨b, o, none⟩)) 0).run Tryf.prog w = .ok (.pointer (some ⟨b, o, none⟩)) w := by kernel_rfl
theorem fa82_3 (b o : Nat) (w : World) : (Instr.fieldAt 82 (.pointer (some ⟨b, o, none⟩)) 3).run Tryf.prog w = .ok (.pointer (some ⟨b, o + 3, none⟩)) w := by kernel_rfl
theorem fa82_4 (b o : Nat) (w : World) : (Instr.fieldAt 82 (.pointer (some ⟨b, o, none⟩)) 4).run Tryf.prog w = .ok (.pointer (some ⟨b, o + 4, none⟩)) w := by kernel_rfl
theorem fa82_5 (b o : Nat) (w : World) : (Instr.fieldAt 82 (.pointer (some ⟨b, o, none⟩)) 5).run Tryf.prog w = .ok (.pointer (some ⟨b, o + 5, none⟩)) w := by kernel_rfl
theorem fname34 : (Tryf.f34.name == "runtime.NumGoroutine") = false := by kernel_rfl
theorem info4 : (Tryf.prog.info? 4).map (fun i => (i.zero, i.size, i.bytes)) = some (some (.bool false), 1, 1) := by kernel_rfl
theorem info85 : (Tryf.prog.info? 85).map (fun i => (i.zero, i.size, i.bytes)) = some (some (.agg (List.replicate 64 (Value.int .u8 0)).toArray), 64, 64) := by kernel_rfl
theorem ixs79 : (Tryf.prog.info? 85).map (·.size) = some 64 := by kernel_rfl
theorem mixed : Tryf.prog.follows .mixedOrders = true := by kernel_rfl
theorem one3 : oneB Tryf.prog 3 = true := by kernel_rfl
theorem one4 : oneB Tryf.prog 4 = true := by kernel_rfl
theorem one79 : oneB Tryf.prog 79 = true := by kernel_rfl
theorem sz3 : (Tryf.prog.info? 3).map (·.size) = some 1 := by kernel_rfl
theorem sz4 : (Tryf.prog.info? 4).map (·.size) = some 1 := by kernel_rfl
theorem szt5 : (Tryf.prog.info? 5).map (·.size) = some 1 := by kernel_rfl
theorem szt85 : (Tryf.prog.info? 85).map (·.size) = some 64 := by kernel_rfl
theorem zero85 : (Tryf.prog.info? 85).bind (·.zero) = some (.agg (List.replicate 64 (Value.int .u8 0)).toArray) := by kernel_rfl
end FactsDev2
section
variable (W : World) (B : Nat)

theorem dev_is (p bn bw bl n : Nat) (s : DevS) (i : Int) : Spec Tryf.prog W B 34 [.pointer (some ⟨p, 0, none⟩), .int .i64 i] (devC p bn bw bl n s) (fun v post => v = .bool (isB n i) ∧ post = devC p bn bw bl n s) := by
  by_cases h0 : 0 ≤ i
  · by_cases h1 : i < (n : Int)
    · have hb : isB n i = true := by simp [isB, h0, h1]
      rw [hb]
      refine Spec.enter ([[cr p 82 (devHead bn bw bl n s)], [cr bn 85 (secV s.now)], [cr bw 85 (secV s.was)], [cr bl 4 (s.loose.map .bool)]]) Tryf.func34 rfl Tryf.ntmps34 rfl (by first | rfl | simp [devC]) (fun w0 => ?_)
      refine CW.seq ?_
      refine CW.region ?_
      refine LW.assign rfl rfl ?_
      refine LW.nil ?_
      refine NW.then_ ?_
      refine CW.seq ?_
      refine CW.region ?_
      refine LW.move rfl rfl ?_
      refine LW.geq true rfl rfl (decide_eq_true (by omega)) rfl ?_
      refine LW.move rfl rfl ?_
      refine LW.on 7 rfl rfl ?_
      refine LW.move rfl rfl ?_
      refine LW.on 7 rfl rfl ?_
      refine LW.move rfl rfl ?_
      refine LW.on 7 rfl rfl ?_
      refine LW.nilPtr rfl rfl ?_
      refine LW.on 7 rfl rfl ?_
      refine LW.fieldAddr _ rfl (fun _ => FactsDev2.fa82_0 _ _ _) rfl ?_
      refine LW.on 7 rfl rfl ?_
      refine LW.load rfl (by repeat (first | exact Take.head _ _ | apply Take.tail)) rfl FactsDev2.one79 rfl ?_
      refine LW.on 7 rfl rfl ?_
      refine LW.lenSlice rfl Tryf.underlying79 rfl ?_
      refine LW.on 7 rfl rfl ?_
      refine LW.lss true rfl rfl (decide_eq_true (by omega)) rfl ?_
      refine LW.pickT rfl rfl rfl ?_
      refine LW.assign rfl rfl ?_
      refine LW.nil ?_
      refine NW.then_ ?_
      refine CW.ret ?_
      refine NW.ret1 rfl rfl ⟨_, ⟨rfl, rfl⟩, ?_⟩
      exact Sub.four (by repeat (first | exact Take.head _ _ | apply Take.tail)) (by repeat (first | exact Take.head _ _ | apply Take.tail)) (by repeat (first | exact Take.head _ _ | apply Take.tail)) (by repeat (first | exact Take.head _ _ | apply Take.tail))
    · have hb : isB n i = false := by simp [isB, h1]
      rw [hb]
      refine Spec.enter ([[cr p 82 (devHead bn bw bl n s)], [cr bn 85 (secV s.now)], [cr bw 85 (secV s.was)], [cr bl 4 (s.loose.map .bool)]]) Tryf.func34 rfl Tryf.ntmps34 rfl (by first | rfl | simp [devC]) (fun w0 => ?_)
      refine CW.seq ?_
      refine CW.region ?_
      refine LW.assign rfl rfl ?_
      refine LW.nil ?_
      refine NW.then_ ?_
      refine CW.seq ?_
      refine CW.region ?_
      refine LW.move rfl rfl ?_
      refine LW.geq true rfl rfl (decide_eq_true (by omega)) rfl ?_
      refine LW.move rfl rfl ?_
      refine LW.on 7 rfl rfl ?_
      refine LW.move rfl rfl ?_
      refine LW.on 7 rfl rfl ?_
      refine LW.move rfl rfl ?_
      refine LW.on 7 rfl rfl ?_
      refine LW.nilPtr rfl rfl ?_
      refine LW.on 7 rfl rfl ?_
      refine LW.fieldAddr _ rfl (fun _ => FactsDev2.fa82_0 _ _ _) rfl ?_
      refine LW.on 7 rfl rfl ?_
      refine LW.load rfl (by repeat (first | exact Take.head _ _ | apply Take.tail)) rfl FactsDev2.one79 rfl ?_
      refine LW.on 7 rfl rfl ?_
      refine LW.lenSlice rfl Tryf.underlying79 rfl ?_
      refine LW.on 7 rfl rfl ?_
      refine LW.lss false rfl rfl (decide_eq_false (by omega)) rfl ?_
      refine LW.pickT rfl rfl rfl ?_
      refine LW.assign rfl rfl ?_
      refine LW.nil ?_
      refine NW.then_ ?_
      refine CW.ret ?_
      refine NW.ret1 rfl rfl ⟨_, ⟨rfl, rfl⟩, ?_⟩
      exact Sub.four (by repeat (first | exact Take.head _ _ | apply Take.tail)) (by repeat (first | exact Take.head _ _ | apply Take.tail)) (by repeat (first | exact Take.head _ _ | apply Take.tail)) (by repeat (first | exact Take.head _ _ | apply Take.tail))
  · have hb : isB n i = false := by simp [isB, h0]
    rw [hb]
    refine Spec.enter ([[cr p 82 (devHead bn bw bl n s)], [cr bn 85 (secV s.now)], [cr bw 85 (secV s.was)], [cr bl 4 (s.loose.map .bool)]]) Tryf.func34 rfl Tryf.ntmps34 rfl (by first | rfl | simp [devC]) (fun w0 => ?_)
    refine CW.seq ?_
    refine CW.region ?_
    refine LW.assign rfl rfl ?_
    refine LW.nil ?_
    refine NW.then_ ?_
    refine CW.seq ?_
    refine CW.region ?_
    refine LW.move rfl rfl ?_
    refine LW.geq false rfl rfl (decide_eq_false (by omega)) rfl ?_
    refine LW.move rfl rfl ?_
    refine LW.off 7 rfl rfl rfl rfl ?_
    refine LW.off 7 rfl rfl rfl rfl ?_
    refine LW.off 7 rfl rfl rfl rfl ?_
    refine LW.off 7 rfl rfl rfl rfl ?_
    refine LW.off 7 rfl rfl rfl rfl ?_
    refine LW.off 7 rfl rfl rfl rfl ?_
    refine LW.off 7 rfl rfl rfl rfl ?_
    refine LW.pickF rfl rfl rfl ?_
    refine LW.assign rfl rfl ?_
    refine LW.nil ?_
    refine NW.then_ ?_
    refine CW.ret ?_
    refine NW.ret1 rfl rfl ⟨_, ⟨rfl, rfl⟩, ?_⟩
    exact Sub.four (by repeat (first | exact Take.head _ _ | apply Take.tail)) (by repeat (first | exact Take.head _ _ | apply Take.tail)) (by repeat (first | exact Take.head _ _ | apply Take.tail)) (by repeat (first | exact Take.head _ _ | apply Take.tail))

theorem dev_Sectors (p bn bw bl n : Nat) (s : DevS) : Spec Tryf.prog W B 42 [.pointer (some ⟨p, 0, none⟩)] (devC p bn bw bl n s) (fun v post => v = .int .i64 (n : Int) ∧ post = devC p bn bw bl n s) := by
  refine Spec.enter ([[cr p 82 (devHead bn bw bl n s)], [cr bn 85 (secV s.now)], [cr bw 85 (secV s.was)], [cr bl 4 (s.loose.map .bool)]]) Tryf.func42 rfl Tryf.ntmps42 rfl (by first | rfl | simp [devC]) (fun w0 => ?_)
  refine CW.seq ?_
  refine CW.region ?_
  refine LW.assign rfl rfl ?_
  refine LW.nil ?_
  refine NW.then_ ?_
  refine CW.seq ?_
  refine CW.seq ?_
  refine CW.region ?_
  refine LW.move rfl rfl ?_
  refine LW.ptrNil _ rfl Tryf.underlying39 rfl rfl ?_
  refine LW.nil ?_
  refine NW.then_ ?_
  refine CW.cond_false rfl ?_
  refine CW.skip ?_
  refine NW.then_ ?_
  refine CW.seq ?_
  refine CW.region ?_
  refine LW.move rfl rfl ?_
  refine LW.nilPtr rfl rfl ?_
  refine LW.fieldAddr _ rfl (fun _ => FactsDev2.fa82_0 _ _ _) rfl ?_
  refine LW.load rfl (by repeat (first | exact Take.head _ _ | apply Take.tail)) rfl FactsDev2.one79 rfl ?_
  refine LW.lenSlice rfl Tryf.underlying79 rfl ?_
  refine LW.assign rfl rfl ?_
  refine LW.nil ?_
  refine NW.then_ ?_
  refine CW.ret ?_
  refine NW.ret1 rfl rfl ⟨_, ⟨rfl, rfl⟩, ?_⟩
  exact Sub.four (by repeat (first | exact Take.head _ _ | apply Take.tail)) (by repeat (first | exact Take.head _ _ | apply Take.tail)) (by repeat (first | exact Take.head _ _ | apply Take.tail)) (by repeat (first | exact Take.head _ _ | apply Take.tail))

theorem dev_burns (p bn bw bl n : Nat) (s : DevS) (hs : s.Ok n) (hd : s.down = false) : Spec Tryf.prog W B 35 [.pointer (some ⟨p, 0, none⟩)] (devC p bn bw bl n s) (fun v post => v = .tuple #[] ∧ post = devC p bn bw bl n s.burn) := by
  cases hf : s.fused
  · have hb : s.burn = s := by simp [DevS.burn, hf]
    rw [hb]
    refine Spec.enter ([[cr p 82 (devHead bn bw bl n s)], [cr bn 85 (secV s.now)], [cr bw 85 (secV s.was)], [cr bl 4 (s.loose.map .bool)]]) Tryf.func35 rfl Tryf.ntmps35 rfl (by first | rfl | simp [devC]) (fun w0 => ?_)
    refine CW.seq ?_
    refine CW.region ?_
    refine LW.move rfl rfl ?_
    refine LW.nilPtr rfl rfl ?_
    refine LW.fieldAddr _ rfl (fun _ => FactsDev2.fa82_4 _ _ _) rfl ?_
    refine LW.load (v := .bool false) rfl (by repeat (first | exact Take.head _ _ | apply Take.tail)) (by simp [devHead, hf]) FactsDev2.one4 rfl ?_
    refine LW.nil ?_
    refine NW.then_ ?_
    refine CW.cond_false rfl ?_
    refine CW.skip ?_
    refine NW.end0 rfl  ⟨_, ⟨rfl, rfl⟩, ?_⟩
    exact Sub.four (by repeat (first | exact Take.head _ _ | apply Take.tail)) (by repeat (first | exact Take.head _ _ | apply Take.tail)) (by repeat (first | exact Take.head _ _ | apply Take.tail)) (by repeat (first | exact Take.head _ _ | apply Take.tail))
  · have hb : s.burn = { s with fuse := s.fuse - 1, down := decide (s.fuse - 1 ≤ 0) } := by simp [DevS.burn, hf]
    have hl := hs.live hd hf
    have hh := hs.hi
    rw [hb]
    refine Spec.enter ([[cr p 82 (devHead bn bw bl n s)], [cr bn 85 (secV s.now)], [cr bw 85 (secV s.was)], [cr bl 4 (s.loose.map .bool)]]) Tryf.func35 rfl Tryf.ntmps35 rfl (by first | rfl | simp [devC]) (fun w0 => ?_)
    refine CW.seq ?_
    refine CW.region ?_
    refine LW.move rfl rfl ?_
    refine LW.nilPtr rfl rfl ?_
    refine LW.fieldAddr _ rfl (fun _ => FactsDev2.fa82_4 _ _ _) rfl ?_
    refine LW.load (v := .bool true) rfl (by repeat (first | exact Take.head _ _ | apply Take.tail)) (by simp [devHead, hf]) FactsDev2.one4 rfl ?_
    refine LW.nil ?_
    refine NW.then_ ?_
    refine CW.cond_true rfl ?_
    refine CW.seq ?_
    refine CW.region ?_
    refine LW.move rfl rfl ?_
    refine LW.nilPtr rfl rfl ?_
    refine LW.fieldAddr _ rfl (fun _ => FactsDev2.fa82_5 _ _ _) rfl ?_
    refine LW.load (v := .int .i64 s.fuse) rfl (by repeat (first | exact Take.head _ _ | apply Take.tail)) (by simp [devHead]) FactsDev2.one3 rfl ?_
    refine LW.sub (s.fuse - 1) rfl rfl (by first | rfl | exact wr64 (by omega) (by omega) (by omega)) rfl ?_
    refine LW.nilPtr rfl rfl ?_
    refine LW.fieldAddr _ rfl (fun _ => FactsDev2.fa82_5 _ _ _) rfl ?_
    refine LW.store rfl rfl (by repeat (first | exact Take.head _ _ | apply Take.tail)) (by first | decide | exact Nat.lt_of_sub_pos (by rfl) | (simp; done) | simp [devHead]) FactsDev2.sz3 (rfl) ?_
    refine LW.nil ?_
    refine NW.then_ ?_
    refine CW.region ?_
    refine LW.move rfl rfl ?_
    refine LW.move rfl rfl ?_
    refine LW.nilPtr rfl rfl ?_
    refine LW.fieldAddr _ rfl (fun _ => FactsDev2.fa82_5 _ _ _) rfl ?_
    refine LW.load (v := .int .i64 (s.fuse - 1)) rfl (by repeat (first | exact Take.head _ _ | apply Take.tail)) (by simp [devHead]) FactsDev2.one3 rfl ?_
    refine LW.leq (decide (s.fuse - 1 ≤ 0)) rfl rfl (rfl) rfl ?_
    refine LW.nilPtr rfl rfl ?_
    refine LW.fieldAddr _ rfl (fun _ => FactsDev2.fa82_3 _ _ _) rfl ?_
    refine LW.store rfl rfl (by repeat (first | exact Take.head _ _ | apply Take.tail)) (by first | decide | exact Nat.lt_of_sub_pos (by rfl) | (simp; done) | simp [devHead]) FactsDev2.sz4 (rfl) ?_
    refine LW.nil ?_
    refine NW.end0 rfl  ⟨_, ⟨rfl, rfl⟩, ?_⟩
    exact Sub.four (by repeat (first | exact Take.head _ _ | apply Take.tail)) (by repeat (first | exact Take.head _ _ | apply Take.tail)) (by repeat (first | exact Take.head _ _ | apply Take.tail)) (by repeat (first | exact Take.head _ _ | apply Take.tail))

theorem dev_New (n : Nat) (h0 : 64 ≤ n) (h1 : n ≤ 4096) : Spec Tryf.prog W B 15 [.int .i64 (n : Int)] [] (fun v post => ∃ p bn bw bl, v = .pointer (some ⟨p, 0, none⟩) ∧ post = devC p bn bw bl n (DevS.zero n)) := by
  have hz : ∀ m, (madeCells (Value.agg (List.replicate 64 (Value.int .u8 0)).toArray).cells (m * 64)).toList = secV (List.replicate m zSec) := fun m => by
    rw [secV_rep]
    exact madeCells_rep _ _ _ (by intro x hx; simp [Value.cells] at hx; exact hx) (by simp [Value.cells])
  have hz1 : ∀ m, (madeCells (Value.bool false).cells (m * 1)).toList = (List.replicate m false).map Value.bool := fun m => by
    rw [Nat.mul_one, List.map_replicate]
    exact madeCells_rep _ _ _ (by intro x hx; simp [Value.cells] at hx; exact hx) (by simp [Value.cells])
  refine Spec.enter ([]) Tryf.func15 rfl Tryf.ntmps15 rfl (by first | rfl | simp) (fun w0 => ?_)
  refine CW.seq ?_
  refine CW.region ?_
  refine LW.assign rfl rfl ?_
  refine LW.nil ?_
  refine NW.then_ ?_
  refine CW.seq ?_
  refine CW.seq ?_
  refine CW.region ?_
  refine LW.move rfl rfl ?_
  refine LW.lss false rfl rfl (decide_eq_false (by omega)) rfl ?_
  refine LW.move rfl rfl ?_
  refine LW.on 5 rfl rfl ?_
  refine LW.move rfl rfl ?_
  refine LW.on 5 rfl rfl ?_
  refine LW.gtr false rfl rfl (decide_eq_false (by omega)) rfl ?_
  refine LW.pickF rfl rfl rfl ?_
  refine LW.nil ?_
  refine NW.then_ ?_
  refine CW.cond_false rfl ?_
  refine CW.skip ?_
  refine NW.then_ ?_
  refine CW.seq ?_
  refine CW.drawH [] FactsDev2.mixed ?_
  refine AW.takes [0, 2, 4] 6 (by kernel_rfl) (by kernel_rfl) rfl (by repeat (first | exact PO.body | refine PO.then_ ?_ | refine PO.block ?_ | refine PO.noGoto ?_)) (fun _ s => Held.of s (by repeat (first | exact Sub.nil _ | refine Sub.cons1 (by repeat (first | exact Take.head _ _ | apply Take.tail)) ?_))) ?_
  refine TW.take rfl (Yl.move rfl) rfl ?_
  refine TW.take rfl (Yl.move rfl) rfl ?_
  refine TW.take rfl (Yl.move rfl) rfl ?_
  refine TW.nil ?_
  refine AW.all [1, 3, 5] (by kernel_rfl) rfl ?_
  refine AWs.cons rfl ?_ ?_
  · refine LW.make (n) (n) (secV (List.replicate n zSec)) rfl rfl (by first | rfl | omega) (by first | rfl | omega) Tryf.underlying79 FactsDev2.info85 (by omega) (by omega) (by omega) (hz n) rfl ?_
    intro bm10
    refine LW.nil ?_
    refine AW.back (fun _ s => Held.of s (by repeat (first | exact Sub.nil _ | refine Sub.cons1 (by repeat (first | exact Take.head _ _ | apply Take.tail)) ?_))) ?_
    refine AW.all [3, 5] (by kernel_rfl) rfl ?_
    refine AWs.cons rfl ?_ ?_
    · refine LW.make (n) (n) (secV (List.replicate n zSec)) rfl rfl (by first | rfl | omega) (by first | rfl | omega) Tryf.underlying79 FactsDev2.info85 (by omega) (by omega) (by omega) (hz n) rfl ?_
      intro bm12
      refine LW.nil ?_
      refine AW.back (fun _ s => Held.of s (by repeat (first | exact Sub.nil _ | refine Sub.cons1 (by repeat (first | exact Take.head _ _ | apply Take.tail)) ?_))) ?_
      refine AW.act 5 (by kernel_rfl) rfl ?_
      refine LW.make (n) (n) ((List.replicate n false).map Value.bool) rfl rfl (by first | rfl | omega) (by first | rfl | omega) Tryf.underlying80 FactsDev2.info4 (by omega) (by omega) (by omega) (hz1 n) rfl ?_
      intro bm14
      refine LW.nil ?_
      refine AW.back (fun _ s => Held.of s (by repeat (first | exact Sub.nil _ | refine Sub.cons1 (by repeat (first | exact Take.head _ _ | apply Take.tail)) ?_))) ?_
      refine AW.takes [6] 2 (by kernel_rfl) (by kernel_rfl) rfl (by repeat (first | exact PO.body | refine PO.then_ ?_ | refine PO.block ?_ | refine PO.noGoto ?_)) (fun _ s => Held.of s (by repeat (first | exact Sub.nil _ | refine Sub.cons1 (by repeat (first | exact Take.head _ _ | apply Take.tail)) ?_))) ?_
      refine TW.take rfl (Yl.build (vs := [_, _, _]) (#[.slice (some ⟨bm10, 0, none⟩) n n, .slice (some ⟨bm12, 0, none⟩) n n, .slice (some ⟨bm14, 0, none⟩) n n, .bool false, .bool false, .int .i64 0]) ⟨rfl, rfl, rfl, trivial⟩ (by kernel_rfl)) rfl ?_
      refine TW.nil ?_
      refine AW.act 7 (by kernel_rfl) rfl ?_
      refine LW.box rfl rfl ?_
      intro bb16
      refine LW.nil ?_
      refine AW.back (fun _ s => Held.of s (by repeat (first | exact Sub.nil _ | refine Sub.cons1 (by repeat (first | exact Take.head _ _ | apply Take.tail)) ?_))) ?_
      refine AW.takes [8] 0 (by kernel_rfl) (by kernel_rfl) rfl (by repeat (first | exact PO.body | refine PO.then_ ?_ | refine PO.block ?_ | refine PO.noGoto ?_)) (fun _ s => Held.of s (by repeat (first | exact Sub.nil _ | refine Sub.cons1 (by repeat (first | exact Take.head _ _ | apply Take.tail)) ?_))) ?_
      refine TW.take rfl (Yl.assign rfl) rfl ?_
      refine TW.nil ?_
      refine AW.done (by kernel_rfl) ?_
      refine NW.then_ ?_
      refine CW.ret ?_
      refine NW.ret1 rfl rfl ⟨_, ⟨bb16, bm10, bm12, bm14, rfl, rfl⟩, ?_⟩
      exact Sub.four (by repeat (first | exact Take.head _ _ | apply Take.tail)) (by repeat (first | exact Take.head _ _ | apply Take.tail)) (by repeat (first | exact Take.head _ _ | apply Take.tail)) (by repeat (first | exact Take.head _ _ | apply Take.tail))
    refine AWs.cons rfl ?_ ?_
    · refine LW.make (n) (n) ((List.replicate n false).map Value.bool) rfl rfl (by first | rfl | omega) (by first | rfl | omega) Tryf.underlying80 FactsDev2.info4 (by omega) (by omega) (by omega) (hz1 n) rfl ?_
      intro bm14
      refine LW.nil ?_
      refine AW.back (fun _ s => Held.of s (by repeat (first | exact Sub.nil _ | refine Sub.cons1 (by repeat (first | exact Take.head _ _ | apply Take.tail)) ?_))) ?_
      refine AW.act 3 (by kernel_rfl) rfl ?_
      refine LW.make (n) (n) (secV (List.replicate n zSec)) rfl rfl (by first | rfl | omega) (by first | rfl | omega) Tryf.underlying79 FactsDev2.info85 (by omega) (by omega) (by omega) (hz n) rfl ?_
      intro bm12
      refine LW.nil ?_
      refine AW.back (fun _ s => Held.of s (by repeat (first | exact Sub.nil _ | refine Sub.cons1 (by repeat (first | exact Take.head _ _ | apply Take.tail)) ?_))) ?_
      refine AW.takes [6] 2 (by kernel_rfl) (by kernel_rfl) rfl (by repeat (first | exact PO.body | refine PO.then_ ?_ | refine PO.block ?_ | refine PO.noGoto ?_)) (fun _ s => Held.of s (by repeat (first | exact Sub.nil _ | refine Sub.cons1 (by repeat (first | exact Take.head _ _ | apply Take.tail)) ?_))) ?_
      refine TW.take rfl (Yl.build (vs := [_, _, _]) (#[.slice (some ⟨bm10, 0, none⟩) n n, .slice (some ⟨bm12, 0, none⟩) n n, .slice (some ⟨bm14, 0, none⟩) n n, .bool false, .bool false, .int .i64 0]) ⟨rfl, rfl, rfl, trivial⟩ (by kernel_rfl)) rfl ?_
      refine TW.nil ?_
      refine AW.act 7 (by kernel_rfl) rfl ?_
      refine LW.box rfl rfl ?_
      intro bb16
      refine LW.nil ?_
      refine AW.back (fun _ s => Held.of s (by repeat (first | exact Sub.nil _ | refine Sub.cons1 (by repeat (first | exact Take.head _ _ | apply Take.tail)) ?_))) ?_
      refine AW.takes [8] 0 (by kernel_rfl) (by kernel_rfl) rfl (by repeat (first | exact PO.body | refine PO.then_ ?_ | refine PO.block ?_ | refine PO.noGoto ?_)) (fun _ s => Held.of s (by repeat (first | exact Sub.nil _ | refine Sub.cons1 (by repeat (first | exact Take.head _ _ | apply Take.tail)) ?_))) ?_
      refine TW.take rfl (Yl.assign rfl) rfl ?_
      refine TW.nil ?_
      refine AW.done (by kernel_rfl) ?_
      refine NW.then_ ?_
      refine CW.ret ?_
      refine NW.ret1 rfl rfl ⟨_, ⟨bb16, bm10, bm12, bm14, rfl, rfl⟩, ?_⟩
      exact Sub.four (by repeat (first | exact Take.head _ _ | apply Take.tail)) (by repeat (first | exact Take.head _ _ | apply Take.tail)) (by repeat (first | exact Take.head _ _ | apply Take.tail)) (by repeat (first | exact Take.head _ _ | apply Take.tail))
    exact AWs.nil
  refine AWs.cons rfl ?_ ?_
  · refine LW.make (n) (n) (secV (List.replicate n zSec)) rfl rfl (by first | rfl | omega) (by first | rfl | omega) Tryf.underlying79 FactsDev2.info85 (by omega) (by omega) (by omega) (hz n) rfl ?_
    intro bm12
    refine LW.nil ?_
    refine AW.back (fun _ s => Held.of s (by repeat (first | exact Sub.nil _ | refine Sub.cons1 (by repeat (first | exact Take.head _ _ | apply Take.tail)) ?_))) ?_
    refine AW.all [1, 5] (by kernel_rfl) rfl ?_
    refine AWs.cons rfl ?_ ?_
    · refine LW.make (n) (n) (secV (List.replicate n zSec)) rfl rfl (by first | rfl | omega) (by first | rfl | omega) Tryf.underlying79 FactsDev2.info85 (by omega) (by omega) (by omega) (hz n) rfl ?_
      intro bm10
      refine LW.nil ?_
      refine AW.back (fun _ s => Held.of s (by repeat (first | exact Sub.nil _ | refine Sub.cons1 (by repeat (first | exact Take.head _ _ | apply Take.tail)) ?_))) ?_
      refine AW.act 5 (by kernel_rfl) rfl ?_
      refine LW.make (n) (n) ((List.replicate n false).map Value.bool) rfl rfl (by first | rfl | omega) (by first | rfl | omega) Tryf.underlying80 FactsDev2.info4 (by omega) (by omega) (by omega) (hz1 n) rfl ?_
      intro bm14
      refine LW.nil ?_
      refine AW.back (fun _ s => Held.of s (by repeat (first | exact Sub.nil _ | refine Sub.cons1 (by repeat (first | exact Take.head _ _ | apply Take.tail)) ?_))) ?_
      refine AW.takes [6] 2 (by kernel_rfl) (by kernel_rfl) rfl (by repeat (first | exact PO.body | refine PO.then_ ?_ | refine PO.block ?_ | refine PO.noGoto ?_)) (fun _ s => Held.of s (by repeat (first | exact Sub.nil _ | refine Sub.cons1 (by repeat (first | exact Take.head _ _ | apply Take.tail)) ?_))) ?_
      refine TW.take rfl (Yl.build (vs := [_, _, _]) (#[.slice (some ⟨bm10, 0, none⟩) n n, .slice (some ⟨bm12, 0, none⟩) n n, .slice (some ⟨bm14, 0, none⟩) n n, .bool false, .bool false, .int .i64 0]) ⟨rfl, rfl, rfl, trivial⟩ (by kernel_rfl)) rfl ?_
      refine TW.nil ?_
      refine AW.act 7 (by kernel_rfl) rfl ?_
      refine LW.box rfl rfl ?_
      intro bb16
      refine LW.nil ?_
      refine AW.back (fun _ s => Held.of s (by repeat (first | exact Sub.nil _ | refine Sub.cons1 (by repeat (first | exact Take.head _ _ | apply Take.tail)) ?_))) ?_
      refine AW.takes [8] 0 (by kernel_rfl) (by kernel_rfl) rfl (by repeat (first | exact PO.body | refine PO.then_ ?_ | refine PO.block ?_ | refine PO.noGoto ?_)) (fun _ s => Held.of s (by repeat (first | exact Sub.nil _ | refine Sub.cons1 (by repeat (first | exact Take.head _ _ | apply Take.tail)) ?_))) ?_
      refine TW.take rfl (Yl.assign rfl) rfl ?_
      refine TW.nil ?_
      refine AW.done (by kernel_rfl) ?_
      refine NW.then_ ?_
      refine CW.ret ?_
      refine NW.ret1 rfl rfl ⟨_, ⟨bb16, bm10, bm12, bm14, rfl, rfl⟩, ?_⟩
      exact Sub.four (by repeat (first | exact Take.head _ _ | apply Take.tail)) (by repeat (first | exact Take.head _ _ | apply Take.tail)) (by repeat (first | exact Take.head _ _ | apply Take.tail)) (by repeat (first | exact Take.head _ _ | apply Take.tail))
    refine AWs.cons rfl ?_ ?_
    · refine LW.make (n) (n) ((List.replicate n false).map Value.bool) rfl rfl (by first | rfl | omega) (by first | rfl | omega) Tryf.underlying80 FactsDev2.info4 (by omega) (by omega) (by omega) (hz1 n) rfl ?_
      intro bm14
      refine LW.nil ?_
      refine AW.back (fun _ s => Held.of s (by repeat (first | exact Sub.nil _ | refine Sub.cons1 (by repeat (first | exact Take.head _ _ | apply Take.tail)) ?_))) ?_
      refine AW.act 1 (by kernel_rfl) rfl ?_
      refine LW.make (n) (n) (secV (List.replicate n zSec)) rfl rfl (by first | rfl | omega) (by first | rfl | omega) Tryf.underlying79 FactsDev2.info85 (by omega) (by omega) (by omega) (hz n) rfl ?_
      intro bm10
      refine LW.nil ?_
      refine AW.back (fun _ s => Held.of s (by repeat (first | exact Sub.nil _ | refine Sub.cons1 (by repeat (first | exact Take.head _ _ | apply Take.tail)) ?_))) ?_
      refine AW.takes [6] 2 (by kernel_rfl) (by kernel_rfl) rfl (by repeat (first | exact PO.body | refine PO.then_ ?_ | refine PO.block ?_ | refine PO.noGoto ?_)) (fun _ s => Held.of s (by repeat (first | exact Sub.nil _ | refine Sub.cons1 (by repeat (first | exact Take.head _ _ | apply Take.tail)) ?_))) ?_
      refine TW.take rfl (Yl.build (vs := [_, _, _]) (#[.slice (some ⟨bm10, 0, none⟩) n n, .slice (some ⟨bm12, 0, none⟩) n n, .slice (some ⟨bm14, 0, none⟩) n n, .bool false, .bool false, .int .i64 0]) ⟨rfl, rfl, rfl, trivial⟩ (by kernel_rfl)) rfl ?_
      refine TW.nil ?_
      refine AW.act 7 (by kernel_rfl) rfl ?_
      refine LW.box rfl rfl ?_
      intro bb16
      refine LW.nil ?_
      refine AW.back (fun _ s => Held.of s (by repeat (first | exact Sub.nil _ | refine Sub.cons1 (by repeat (first | exact Take.head _ _ | apply Take.tail)) ?_))) ?_
      refine AW.takes [8] 0 (by kernel_rfl) (by kernel_rfl) rfl (by repeat (first | exact PO.body | refine PO.then_ ?_ | refine PO.block ?_ | refine PO.noGoto ?_)) (fun _ s => Held.of s (by repeat (first | exact Sub.nil _ | refine Sub.cons1 (by repeat (first | exact Take.head _ _ | apply Take.tail)) ?_))) ?_
      refine TW.take rfl (Yl.assign rfl) rfl ?_
      refine TW.nil ?_
      refine AW.done (by kernel_rfl) ?_
      refine NW.then_ ?_
      refine CW.ret ?_
      refine NW.ret1 rfl rfl ⟨_, ⟨bb16, bm10, bm12, bm14, rfl, rfl⟩, ?_⟩
      exact Sub.four (by repeat (first | exact Take.head _ _ | apply Take.tail)) (by repeat (first | exact Take.head _ _ | apply Take.tail)) (by repeat (first | exact Take.head _ _ | apply Take.tail)) (by repeat (first | exact Take.head _ _ | apply Take.tail))
    exact AWs.nil
  refine AWs.cons rfl ?_ ?_
  · refine LW.make (n) (n) ((List.replicate n false).map Value.bool) rfl rfl (by first | rfl | omega) (by first | rfl | omega) Tryf.underlying80 FactsDev2.info4 (by omega) (by omega) (by omega) (hz1 n) rfl ?_
    intro bm14
    refine LW.nil ?_
    refine AW.back (fun _ s => Held.of s (by repeat (first | exact Sub.nil _ | refine Sub.cons1 (by repeat (first | exact Take.head _ _ | apply Take.tail)) ?_))) ?_
    refine AW.all [1, 3] (by kernel_rfl) rfl ?_
    refine AWs.cons rfl ?_ ?_
    · refine LW.make (n) (n) (secV (List.replicate n zSec)) rfl rfl (by first | rfl | omega) (by first | rfl | omega) Tryf.underlying79 FactsDev2.info85 (by omega) (by omega) (by omega) (hz n) rfl ?_
      intro bm10
      refine LW.nil ?_
      refine AW.back (fun _ s => Held.of s (by repeat (first | exact Sub.nil _ | refine Sub.cons1 (by repeat (first | exact Take.head _ _ | apply Take.tail)) ?_))) ?_
      refine AW.act 3 (by kernel_rfl) rfl ?_
      refine LW.make (n) (n) (secV (List.replicate n zSec)) rfl rfl (by first | rfl | omega) (by first | rfl | omega) Tryf.underlying79 FactsDev2.info85 (by omega) (by omega) (by omega) (hz n) rfl ?_
      intro bm12
      refine LW.nil ?_
      refine AW.back (fun _ s => Held.of s (by repeat (first | exact Sub.nil _ | refine Sub.cons1 (by repeat (first | exact Take.head _ _ | apply Take.tail)) ?_))) ?_
      refine AW.takes [6] 2 (by kernel_rfl) (by kernel_rfl) rfl (by repeat (first | exact PO.body | refine PO.then_ ?_ | refine PO.block ?_ | refine PO.noGoto ?_)) (fun _ s => Held.of s (by repeat (first | exact Sub.nil _ | refine Sub.cons1 (by repeat (first | exact Take.head _ _ | apply Take.tail)) ?_))) ?_
      refine TW.take rfl (Yl.build (vs := [_, _, _]) (#[.slice (some ⟨bm10, 0, none⟩) n n, .slice (some ⟨bm12, 0, none⟩) n n, .slice (some ⟨bm14, 0, none⟩) n n, .bool false, .bool false, .int .i64 0]) ⟨rfl, rfl, rfl, trivial⟩ (by kernel_rfl)) rfl ?_
      refine TW.nil ?_
      refine AW.act 7 (by kernel_rfl) rfl ?_
      refine LW.box rfl rfl ?_
      intro bb16
      refine LW.nil ?_
      refine AW.back (fun _ s => Held.of s (by repeat (first | exact Sub.nil _ | refine Sub.cons1 (by repeat (first | exact Take.head _ _ | apply Take.tail)) ?_))) ?_
      refine AW.takes [8] 0 (by kernel_rfl) (by kernel_rfl) rfl (by repeat (first | exact PO.body | refine PO.then_ ?_ | refine PO.block ?_ | refine PO.noGoto ?_)) (fun _ s => Held.of s (by repeat (first | exact Sub.nil _ | refine Sub.cons1 (by repeat (first | exact Take.head _ _ | apply Take.tail)) ?_))) ?_
      refine TW.take rfl (Yl.assign rfl) rfl ?_
      refine TW.nil ?_
      refine AW.done (by kernel_rfl) ?_
      refine NW.then_ ?_
      refine CW.ret ?_
      refine NW.ret1 rfl rfl ⟨_, ⟨bb16, bm10, bm12, bm14, rfl, rfl⟩, ?_⟩
      exact Sub.four (by repeat (first | exact Take.head _ _ | apply Take.tail)) (by repeat (first | exact Take.head _ _ | apply Take.tail)) (by repeat (first | exact Take.head _ _ | apply Take.tail)) (by repeat (first | exact Take.head _ _ | apply Take.tail))
    refine AWs.cons rfl ?_ ?_
    · refine LW.make (n) (n) (secV (List.replicate n zSec)) rfl rfl (by first | rfl | omega) (by first | rfl | omega) Tryf.underlying79 FactsDev2.info85 (by omega) (by omega) (by omega) (hz n) rfl ?_
      intro bm12
      refine LW.nil ?_
      refine AW.back (fun _ s => Held.of s (by repeat (first | exact Sub.nil _ | refine Sub.cons1 (by repeat (first | exact Take.head _ _ | apply Take.tail)) ?_))) ?_
      refine AW.act 1 (by kernel_rfl) rfl ?_
      refine LW.make (n) (n) (secV (List.replicate n zSec)) rfl rfl (by first | rfl | omega) (by first | rfl | omega) Tryf.underlying79 FactsDev2.info85 (by omega) (by omega) (by omega) (hz n) rfl ?_
      intro bm10
      refine LW.nil ?_
      refine AW.back (fun _ s => Held.of s (by repeat (first | exact Sub.nil _ | refine Sub.cons1 (by repeat (first | exact Take.head _ _ | apply Take.tail)) ?_))) ?_
      refine AW.takes [6] 2 (by kernel_rfl) (by kernel_rfl) rfl (by repeat (first | exact PO.body | refine PO.then_ ?_ | refine PO.block ?_ | refine PO.noGoto ?_)) (fun _ s => Held.of s (by repeat (first | exact Sub.nil _ | refine Sub.cons1 (by repeat (first | exact Take.head _ _ | apply Take.tail)) ?_))) ?_
      refine TW.take rfl (Yl.build (vs := [_, _, _]) (#[.slice (some ⟨bm10, 0, none⟩) n n, .slice (some ⟨bm12, 0, none⟩) n n, .slice (some ⟨bm14, 0, none⟩) n n, .bool false, .bool false, .int .i64 0]) ⟨rfl, rfl, rfl, trivial⟩ (by kernel_rfl)) rfl ?_
      refine TW.nil ?_
      refine AW.act 7 (by kernel_rfl) rfl ?_
      refine LW.box rfl rfl ?_
      intro bb16
      refine LW.nil ?_
      refine AW.back (fun _ s => Held.of s (by repeat (first | exact Sub.nil _ | refine Sub.cons1 (by repeat (first | exact Take.head _ _ | apply Take.tail)) ?_))) ?_
      refine AW.takes [8] 0 (by kernel_rfl) (by kernel_rfl) rfl (by repeat (first | exact PO.body | refine PO.then_ ?_ | refine PO.block ?_ | refine PO.noGoto ?_)) (fun _ s => Held.of s (by repeat (first | exact Sub.nil _ | refine Sub.cons1 (by repeat (first | exact Take.head _ _ | apply Take.tail)) ?_))) ?_
      refine TW.take rfl (Yl.assign rfl) rfl ?_
      refine TW.nil ?_
      refine AW.done (by kernel_rfl) ?_
      refine NW.then_ ?_
      refine CW.ret ?_
      refine NW.ret1 rfl rfl ⟨_, ⟨bb16, bm10, bm12, bm14, rfl, rfl⟩, ?_⟩
      exact Sub.four (by repeat (first | exact Take.head _ _ | apply Take.tail)) (by repeat (first | exact Take.head _ _ | apply Take.tail)) (by repeat (first | exact Take.head _ _ | apply Take.tail)) (by repeat (first | exact Take.head _ _ | apply Take.tail))
    exact AWs.nil
  exact AWs.nil

theorem dev_Read (p bn bw bl n : Nat) (s : DevS) (hs : s.Ok n) (i : Nat) (hi : i < n) : Spec Tryf.prog W B 18 [.pointer (some ⟨p, 0, none⟩), .int .i64 (i : Int)] (devC p bn bw bl n s)
    (fun v post => ∃ q, v = .tuple #[.slice (some ⟨q, 0, none⟩) 64 64, .int .i64 0] ∧ post = cr q 85 ((s.now.getD i []).map u8v) :: devC p bn bw bl n s) := by
  have hb : isB n (i : Int) = true := by simp [isB, hi]
  have hx := hs.now.getD hi
  have hl := hs.now.get hx
  refine Spec.enter ([[cr p 82 (devHead bn bw bl n s)], [cr bn 85 (secV s.now)], [cr bw 85 (secV s.was)], [cr bl 4 (s.loose.map .bool)]]) Tryf.func18 rfl Tryf.ntmps18 rfl (by first | rfl | simp [devC]) (fun w0 => ?_)
  refine CW.seq ?_
  refine CW.region ?_
  refine LW.assign rfl rfl ?_
  refine LW.assign rfl rfl ?_
  refine LW.nil ?_
  refine NW.then_ ?_
  refine CW.seq ?_
  refine CW.block ?_
  refine CW.seq ?_
  refine CW.region ?_
  refine LW.move rfl rfl ?_
  refine LW.ptrNil _ rfl Tryf.underlying39 rfl rfl ?_
  refine LW.assign rfl rfl ?_
  refine LW.nil ?_
  refine NW.then_ ?_
  refine CW.cond_false rfl ?_
  refine CW.seq ?_
  refine CW.region ?_
  refine LW.move rfl rfl ?_
  refine LW.move rfl rfl ?_
  refine LW.call (dev_is _ _ p bn bw bl n s i) Tryf.func34 rfl FactsDev2.fname34 ⟨rfl, rfl, trivial⟩ ((Take.four (by repeat (first | exact Take.head _ _ | apply Take.tail)) (by repeat (first | exact Take.head _ _ | apply Take.tail)) (by repeat (first | exact Take.head _ _ | apply Take.tail)) (by repeat (first | exact Take.head _ _ | apply Take.tail)))) rfl ?_
  rintro _ _ ⟨rfl, rfl⟩; rw [hb]; refine LW.open4 ?_
  refine LW.not (false) rfl (rfl) rfl ?_
  refine LW.assign rfl rfl ?_
  refine LW.nil ?_
  refine NW.then_ ?_
  refine CW.cond_false rfl ?_
  refine CW.skip ?_
  refine NW.block ?_
  refine NW.then_ ?_
  refine CW.seq ?_
  refine CW.region ?_
  refine LW.move rfl rfl ?_
  refine LW.nilPtr rfl rfl ?_
  refine LW.fieldAddr _ rfl (fun _ => FactsDev2.fa82_0 _ _ _) rfl ?_
  refine LW.load rfl (by repeat (first | exact Take.head _ _ | apply Take.tail)) rfl FactsDev2.one79 rfl ?_
  refine LW.move rfl rfl ?_
  refine LW.indexAddr (i * 64) rfl rfl Tryf.underlying79 FactsDev2.ixs79 (by omega) (by omega) (by simp) rfl ?_
  refine LW.loadAgg ((s.now.getD i []).map u8v) rfl (by repeat (first | exact Take.head _ _ | apply Take.tail)) (secV_get hs.now hx) Tryf.underlying85 rfl (by rw [FactsDev2.szt85]; exact congrArg some (Eq.symm (by rw [List.length_map]; exact hl))) rfl ?_
  refine LW.alloc FactsDev2.zero85 rfl ?_
  intro ba6
  refine LW.storeAgg ((s.now.getD i []).map u8v) rfl rfl (by repeat (first | exact Take.head _ _ | apply Take.tail)) (by rw [FactsDev2.szt85]; exact congrArg some (Eq.symm (by rw [List.length_map]; exact hl))) (by rw [List.length_map, hl]; decide) (u8vs_one _) (whole (by rw [List.length_map, hl]; decide) (by rw [List.length_map]; omega)) ?_
  refine LW.nil ?_
  refine NW.then_ ?_
  refine CW.seq ?_
  refine CW.region ?_
  refine LW.cutArr rfl Tryf.underlying85 FactsDev2.szt5 rfl ?_
  refine LW.assign rfl rfl ?_
  refine LW.assign rfl rfl ?_
  refine LW.nil ?_
  refine NW.then_ ?_
  refine CW.ret ?_
  refine NW.ret2 rfl rfl rfl ⟨_, ⟨_, rfl, rfl⟩, ?_⟩
  exact Sub.take (p := [_]) (by repeat (first | exact Take.head _ _ | apply Take.tail)) (Sub.four (by repeat (first | exact Take.head _ _ | apply Take.tail)) (by repeat (first | exact Take.head _ _ | apply Take.tail)) (by repeat (first | exact Take.head _ _ | apply Take.tail)) (by repeat (first | exact Take.head _ _ | apply Take.tail)))

end
end Go.Proofs.YtemdebmfdhamgaaFmt
