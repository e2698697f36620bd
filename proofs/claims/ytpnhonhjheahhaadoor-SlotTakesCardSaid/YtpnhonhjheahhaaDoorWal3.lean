/-
  A LOG's METHODS: the contracts.
-/
import Derived.Test.YtpnhonhjheahhaaDoorWal2
namespace Go.Proofs.YtpnhonhjheahhaaDoor
open Go.RowKit
namespace FactsWal3
theorem fa81_0 (b o : Nat) (w : World) : (Instr.fieldAt 81 (.pointer (some ⟨b, o, none⟩)) 0).run Tryd.prog w = .ok (.pointer (some ⟨b, o, none⟩)) w := by kernel_rfl
theorem fa81_1 (b o : Nat) (w : World) : (Instr.fieldAt 81 (.pointer (some ⟨b, o, none⟩)) 1).run Tryd.prog w = .ok (.pointer (some ⟨b, o + 1, none⟩)) w := by kernel_rfl
theorem fa81_2 (b o : Nat) (w : World) : (Instr.fieldAt 81 (.pointer (some ⟨b, o, none⟩)) 2).run Tryd.prog w = .ok (.pointer (some ⟨b, o + 2, none⟩)) w := by kernel_rfl
theorem fa81_3 (b o : Nat) (w : World) : (Instr.fieldAt 81 (.pointer (some ⟨b, o, none⟩)) 3).run Tryd.prog w = .ok (.pointer (some ⟨b, o + 3, none⟩)) w := by kernel_rfl
theorem fa81_4 (b o : Nat) (w : World) : (Instr.fieldAt 81 (.pointer (some ⟨b, o, none⟩)) 4).run Tryd.prog w = .ok (.pointer (some ⟨b, o + 4, none⟩)) w := by kernel_rfl
theorem fa81_5 (b o : Nat) (w : World) : (Instr.fieldAt 81 (.pointer (some ⟨b, o, none⟩)) 5).run Tryd.prog w = .ok (.pointer (some ⟨b, o + 5, none⟩)) w := by kernel_rfl
theorem fname24 : (Tryd.f24.name == "runtime.NumGoroutine") = false := by kernel_rfl
theorem fname35 : (Tryd.f35.name == "runtime.NumGoroutine") = false := by kernel_rfl
theorem fname44 : (Tryd.f44.name == "runtime.NumGoroutine") = false := by kernel_rfl
theorem fname45 : (Tryd.f45.name == "runtime.NumGoroutine") = false := by kernel_rfl
theorem fname46 : (Tryd.f46.name == "runtime.NumGoroutine") = false := by kernel_rfl
theorem info2 : (Tryd.prog.info? 2).map (fun i => (i.zero, i.size, i.bytes)) = some (some (.int .i64 0), 1, 8) := by kernel_rfl
theorem info5 : (Tryd.prog.info? 5).map (fun i => (i.zero, i.size, i.bytes)) = some (some (.int .u8 0), 1, 1) := by kernel_rfl
theorem mixed : Tryd.prog.follows .mixedOrders = true := by kernel_rfl
theorem one2 : oneB Tryd.prog 2 = true := by kernel_rfl
theorem one27 : oneB Tryd.prog 27 = true := by kernel_rfl
theorem one3 : oneB Tryd.prog 3 = true := by kernel_rfl
theorem one4 : oneB Tryd.prog 4 = true := by kernel_rfl
theorem one44 : oneB Tryd.prog 44 = true := by kernel_rfl
theorem sz2 : (Tryd.prog.info? 2).map (·.size) = some 1 := by kernel_rfl
theorem sz3 : (Tryd.prog.info? 3).map (·.size) = some 1 := by kernel_rfl
theorem sz4 : (Tryd.prog.info? 4).map (·.size) = some 1 := by kernel_rfl
end FactsWal3
def logC (l q p : Nat) (L : LogV) : List Row := [logR l q p L] ++ [slC q p L.serial L.sbad]
structure LogV.In (L : LogV) : Prop where
  area : I64 L.area
  length : I64 L.length
  used : L.used ≤ 1000000
  s0 : 0 ≤ L.serial
  s1 : L.serial ≤ 4611686018427387904
theorem setsL_dev {n : Nat} {d : DevS} (hd : d.Ok n) (L : LogV) (a b : Int) (u : Nat) : (setsL n d L a b u).2.1.Ok n := by
  unfold setsL
  split <;> exact setS_ok hd _ _
theorem writeL_dev {n : Nat} {d : DevS} (hd : d.Ok n) (u : Nat) (b : List UInt8) : (writeL n d u b).2.Ok n := by
  unfold writeL
  split
  · exact (wrO_okDev n _ d _ _ hd).flush
  · exact wrO_okDev n _ d _ _ hd
theorem appendL_dev {n : Nat} {d : DevS} (hd : d.Ok n) (L : LogV) (b : List UInt8) : (appendL n d L b).2.1.Ok n := by
  unfold appendL
  split
  · exact hd
  · split
    · exact hd
    · split
      · exact setsL_dev (writeL_dev hd _ _) _ _ _ _
      · exact writeL_dev hd _ _
section
variable (W : World) (B : Nat)
theorem wal_sets (l q p bn bw bl n : Nat) (s : DevS) (hs : s.Ok n) (L : LogV) (hL : L.In) (hb : L.sbad = false) (area length : Int) (ha : I64 area) (hl : I64 length) (used : Nat) (hu : used ≤ 1000000) :
    Spec Tryd.prog W B 46 [.pointer (some ⟨l, 0, none⟩), .int .i64 area, .int .i64 length, .int .i64 (used : Int)] (logC l q p L ++ devC p bn bw bl n s)
      (fun v post => v = .int .i64 (setsL n s L area length used).1 ∧ post = logC l q p (setsL n s L area length used).2.2 ++ devC p bn bw bl n (setsL n s L area length used).2.1) := by
  have hset := fun src A cp hsrc => slot_Set W B q p bn bw bl n s hs L.serial hL.s0 hL.s1 [area, length, (used : Int)] (by intro n hn; simp at hn; rcases hn with rfl | rfl | rfl; exact ha; exact hl; exact ⟨by omega, by omega⟩) (by simp) src A cp hsrc
  have hy : (setS n s L.serial [area, length, (used : Int)]).1 = 0 → setsL n s L area length used = (0, (setS n s L.serial [area, length, (used : Int)]).2, { L with area := area, length := length, used := used, serial := L.serial + 1 }) := fun h => by rw [setsL, if_pos h]
  have hn : (setS n s L.serial [area, length, (used : Int)]).1 ≠ 0 → setsL n s L area length used = ((setS n s L.serial [area, length, (used : Int)]).1, (setS n s L.serial [area, length, (used : Int)]).2, { L with sbad := true }) := fun h => by rw [setsL, if_neg h]
  generalize setS n s L.serial [area, length, (used : Int)] = y at hset hy hn
  refine Spec.enter ([[cr l 81 [.pointer (some ⟨p, 0, none⟩), .pointer (some ⟨q, 0, none⟩), .int .i64 L.area, .int .i64 L.length, .int .i64 (L.used : Int), .bool L.lbad]], [slC q p L.serial L.sbad], devC p bn bw bl n s]) Tryd.func46 rfl Tryd.ntmps46 rfl (by first | rfl | simp) (fun w0 => ?_)
  refine CW.seq ?_
  refine CW.region ?_
  refine LW.assign rfl rfl ?_
  refine LW.nil ?_
  refine NW.then_ ?_
  refine CW.seq ?_
  rw [hb]
  refine CW.region ?_
  refine LW.move rfl rfl ?_
  refine LW.nilPtr rfl rfl ?_
  refine LW.fieldAddr _ rfl (fun _ => FactsWal3.fa81_1 _ _ _) rfl ?_
  refine LW.load rfl (by repeat (first | exact Take.head _ _ | apply Take.tail)) rfl FactsWal3.one44 rfl ?_
  refine LW.move rfl rfl ?_
  refine LW.move rfl rfl ?_
  refine LW.move rfl rfl ?_
  refine LW.buildSlice (vs := [_, _, _]) ⟨rfl, rfl, rfl, trivial⟩ rfl (by intro v hv; simp at hv; rcases hv with rfl | rfl | rfl <;> rfl) Tryd.underlying47 FactsWal3.info2 rfl (by decide) (by decide) rfl ?_
  intro bs17
  refine LW.call (hset [cr bs17 2 [.int .i64 area, .int .i64 length, .int .i64 (used : Int)]] (some ⟨bs17, 0, none⟩) 3 (Src.row (fun j v hj => by rw [Nat.zero_add]; exact hj))) Tryd.func35 rfl FactsWal3.fname35 ⟨rfl, rfl, trivial⟩ (Take.both (by repeat (first | exact Take.head _ _ | apply Take.tail)) (Take.both (by repeat (first | exact Take.head _ _ | apply Take.tail)) (by repeat (first | exact Take.head _ _ | apply Take.tail)))) rfl ?_
  rintro _ _ ⟨rfl, rfl⟩; refine LW.split2 (LW.split2p ?_)
  refine LW.assign rfl rfl ?_
  refine LW.nil ?_
  refine NW.then_ ?_
  refine CW.seq ?_
  refine CW.seq ?_
  refine CW.region ?_
  refine LW.move rfl rfl ?_
  refine LW.eql _ rfl rfl rfl rfl ?_
  refine LW.nil ?_
  refine NW.then_ ?_
  refine CW.cond rfl (fun hc20 => ?_) (fun hc20 => ?_)
  · replace hc20 := beq_iff_eq.1 hc20
    try dsimp only at hc20
    replace hy := hy hc20
    have hsl : slC q p (if y.1 = 0 then L.serial + 1 else L.serial) (decide (y.1 ≠ 0)) = slC q p (L.serial + 1) L.sbad := by rw [if_pos hc20, decide_eq_false (fun h => h hc20), hb]
    rw [hsl]
    refine CW.region ?_
    refine LW.move rfl rfl ?_
    refine LW.move rfl rfl ?_
    refine LW.move rfl rfl ?_
    refine LW.move rfl rfl ?_
    refine LW.move rfl rfl ?_
    refine LW.move rfl rfl ?_
    refine LW.nilPtr rfl rfl ?_
    refine LW.fieldAddr _ rfl (fun _ => FactsWal3.fa81_2 _ _ _) rfl ?_
    refine LW.store rfl rfl (by repeat (first | exact Take.head _ _ | apply Take.tail)) (by first | decide | exact Nat.lt_of_sub_pos (by rfl) | (simp; done) | simp [devHead]) FactsWal3.sz2 (rfl) ?_
    refine LW.nilPtr rfl rfl ?_
    refine LW.fieldAddr _ rfl (fun _ => FactsWal3.fa81_3 _ _ _) rfl ?_
    refine LW.store rfl rfl (by repeat (first | exact Take.head _ _ | apply Take.tail)) (by first | decide | exact Nat.lt_of_sub_pos (by rfl) | (simp; done) | simp [devHead]) FactsWal3.sz2 (rfl) ?_
    refine LW.nilPtr rfl rfl ?_
    refine LW.fieldAddr _ rfl (fun _ => FactsWal3.fa81_4 _ _ _) rfl ?_
    refine LW.store rfl rfl (by repeat (first | exact Take.head _ _ | apply Take.tail)) (by first | decide | exact Nat.lt_of_sub_pos (by rfl) | (simp; done) | simp [devHead]) FactsWal3.sz3 (rfl) ?_
    refine LW.nil ?_
    refine NW.then_ ?_
    refine CW.seq ?_
    refine CW.region ?_
    refine LW.move rfl rfl ?_
    refine LW.assign rfl rfl ?_
    refine LW.nil ?_
    refine NW.then_ ?_
    refine CW.ret ?_
    refine NW.ret1 rfl rfl ⟨_, ⟨by rw [hy, hc20], by rw [hy]⟩, ?_⟩
    exact Sub.take (Take.both (p := [_]) (by repeat (first | exact Take.head _ _ | apply Take.tail)) (by repeat (first | exact Take.head _ _ | apply Take.tail))) (Sub.one (by repeat (first | exact Take.head _ _ | apply Take.tail)))
  · replace hc20 := beq_eq_false_iff_ne.1 hc20
    try dsimp only at hc20
    replace hn := hn hc20
    have hsl : slC q p (if y.1 = 0 then L.serial + 1 else L.serial) (decide (y.1 ≠ 0)) = slC q p L.serial true := by rw [if_neg hc20, decide_eq_true hc20]
    rw [hsl]
    refine CW.skip ?_
    refine NW.then_ ?_
    refine CW.seq ?_
    refine CW.region ?_
    refine LW.move rfl rfl ?_
    refine LW.assign rfl rfl ?_
    refine LW.nil ?_
    refine NW.then_ ?_
    refine CW.ret ?_
    refine NW.ret1 rfl rfl ⟨_, ⟨by rw [hn], by rw [hn]⟩, ?_⟩
    exact Sub.take (Take.both (p := [_]) (by repeat (first | exact Take.head _ _ | apply Take.tail)) (by repeat (first | exact Take.head _ _ | apply Take.tail))) (Sub.one (by repeat (first | exact Take.head _ _ | apply Take.tail)))

theorem wal_Room (l q p bn bw bl n : Nat) (s : DevS) (h0 : 64 ≤ n) (h1 : n ≤ 4096) (L : LogV) (hu : L.used ≤ 1000000) :
    Spec Tryd.prog W B 24 [.pointer (some ⟨l, 0, none⟩)] ([logR l q p L] ++ devC p bn bw bl n s) (fun v post => v = .int .i64 ((ringN n : Int) - (L.used : Int)) ∧ post = [logR l q p L] ++ devC p bn bw bl n s) := by
  have hr : ringN n ≤ 262144 := by unfold ringN; omega
  refine Spec.enter ([[cr l 81 [.pointer (some ⟨p, 0, none⟩), .pointer (some ⟨q, 0, none⟩), .int .i64 L.area, .int .i64 L.length, .int .i64 (L.used : Int), .bool L.lbad]], devC p bn bw bl n s]) Tryd.func24 rfl Tryd.ntmps24 rfl (by first | rfl | simp) (fun w0 => ?_)
  refine CW.seq ?_
  refine CW.region ?_
  refine LW.assign rfl rfl ?_
  refine LW.nil ?_
  refine NW.then_ ?_
  refine CW.seq ?_
  refine CW.seq ?_
  refine CW.region ?_
  refine LW.move rfl rfl ?_
  refine LW.ptrNil _ rfl Tryd.underlying23 rfl rfl ?_
  refine LW.nil ?_
  refine NW.then_ ?_
  refine CW.cond_false rfl ?_
  refine CW.skip ?_
  refine NW.then_ ?_
  refine CW.seq ?_
  refine CW.drawH [cr l 81 [.pointer (some ⟨p, 0, none⟩), .pointer (some ⟨q, 0, none⟩), .int .i64 L.area, .int .i64 L.length, .int .i64 (L.used : Int), .bool L.lbad]] FactsWal3.mixed ?_
  refine AW.takes [0, 1, 2, 3, 5, 6, 7, 8] 3 (by kernel_rfl) (by kernel_rfl) rfl (by repeat (first | exact PO.body | refine PO.then_ ?_ | refine PO.block ?_ | refine PO.noGoto ?_)) (fun _ s => Held.of s (by repeat (first | exact Sub.nil _ | refine Sub.cons1 (by repeat (first | exact Take.head _ _ | apply Take.tail)) ?_))) ?_
  refine TW.take rfl (Yl.move rfl) rfl ?_
  refine TW.take rfl (Yl.nilPtr rfl) rfl ?_
  refine TW.take rfl (Yl.fieldAddr _ rfl (fun _ => FactsWal3.fa81_0 _ _ _)) rfl ?_
  refine TW.take rfl (Yl.load rfl (by repeat (first | exact List.Mem.head _ | refine List.Mem.tail _ ?_)) rfl FactsWal3.one27) rfl ?_
  refine TW.take rfl (Yl.move rfl) rfl ?_
  refine TW.take rfl (Yl.nilPtr rfl) rfl ?_
  refine TW.take rfl (Yl.fieldAddr _ rfl (fun _ => FactsWal3.fa81_4 _ _ _)) rfl ?_
  refine TW.take rfl (Yl.load rfl (by repeat (first | exact List.Mem.head _ | refine List.Mem.tail _ ?_)) rfl FactsWal3.one3) rfl ?_
  refine TW.nil ?_
  refine AW.act 4 (by kernel_rfl) rfl ?_
  refine LW.call (wal_ring W B p bn bw bl n s h0 h1) Tryd.func44 rfl FactsWal3.fname44 ⟨rfl, trivial⟩ ((by repeat (first | exact Take.head _ _ | apply Take.tail))) rfl ?_
  rintro _ _ ⟨rfl, rfl⟩
  refine LW.nil ?_
  refine AW.back (fun _ s => Held.of s (by repeat (first | exact Sub.nil _ | refine Sub.cons1 (by repeat (first | exact Take.head _ _ | apply Take.tail)) ?_))) ?_
  refine AW.takes [9, 10] 0 (by kernel_rfl) (by kernel_rfl) rfl (by repeat (first | exact PO.body | refine PO.then_ ?_ | refine PO.block ?_ | refine PO.noGoto ?_)) (fun _ s => Held.of s (by repeat (first | exact Sub.nil _ | refine Sub.cons1 (by repeat (first | exact Take.head _ _ | apply Take.tail)) ?_))) ?_
  refine TW.take rfl (Yl.sub64 rfl rfl (by omega) (by omega)) rfl ?_
  refine TW.take rfl (Yl.assign rfl) rfl ?_
  refine TW.nil ?_
  refine AW.done (by kernel_rfl) ?_
  refine NW.then_ ?_
  refine CW.ret ?_
  refine NW.ret1 rfl rfl ⟨_, ⟨rfl, rfl⟩, ?_⟩
  exact Sub.take (p := [_]) (by repeat (first | exact Take.head _ _ | apply Take.tail)) (Sub.one (by repeat (first | exact Take.head _ _ | apply Take.tail)))

theorem wal_Area (l q p : Nat) (L : LogV) :
    Spec Tryd.prog W B 31 [.pointer (some ⟨l, 0, none⟩)] [logR l q p L] (fun v post => v = .tuple #[.int .i64 L.area, .int .i64 L.length] ∧ post = [logR l q p L]) := by
  refine Spec.enter ([[cr l 81 [.pointer (some ⟨p, 0, none⟩), .pointer (some ⟨q, 0, none⟩), .int .i64 L.area, .int .i64 L.length, .int .i64 (L.used : Int), .bool L.lbad]]]) Tryd.func31 rfl Tryd.ntmps31 rfl (by first | rfl | simp) (fun w0 => ?_)
  refine CW.seq ?_
  refine CW.region ?_
  refine LW.assign rfl rfl ?_
  refine LW.assign rfl rfl ?_
  refine LW.nil ?_
  refine NW.then_ ?_
  refine CW.seq ?_
  refine CW.seq ?_
  refine CW.region ?_
  refine LW.move rfl rfl ?_
  refine LW.ptrNil _ rfl Tryd.underlying23 rfl rfl ?_
  refine LW.nil ?_
  refine NW.then_ ?_
  refine CW.cond_false rfl ?_
  refine CW.skip ?_
  refine NW.then_ ?_
  refine CW.seq ?_
  refine CW.quiet FactsWal3.mixed (by kernel_rfl) ?_
  refine QW.step (Yl.move rfl) rfl ?_
  refine QW.step (Yl.nilPtr rfl) rfl ?_
  refine QW.step (Yl.fieldAddr _ rfl (fun _ => FactsWal3.fa81_2 _ _ _)) rfl ?_
  refine QW.step (Yl.loadSt rfl (by repeat (first | exact Take.head _ _ | apply Take.tail)) rfl FactsWal3.one2) rfl ?_
  refine QW.step (Yl.move rfl) rfl ?_
  refine QW.step (Yl.nilPtr rfl) rfl ?_
  refine QW.step (Yl.fieldAddr _ rfl (fun _ => FactsWal3.fa81_3 _ _ _)) rfl ?_
  refine QW.step (Yl.loadSt rfl (by repeat (first | exact Take.head _ _ | apply Take.tail)) rfl FactsWal3.one2) rfl ?_
  refine QW.step (Yl.assign rfl) rfl ?_
  refine QW.step (Yl.assign rfl) rfl ?_
  refine QW.nil ?_
  refine NW.then_ ?_
  refine CW.ret ?_
  refine NW.ret2 rfl rfl rfl ⟨_, ⟨rfl, rfl⟩, ?_⟩
  exact Sub.one (by repeat (first | exact Take.head _ _ | apply Take.tail))

theorem wal_Reset (l q p bn bw bl n : Nat) (s : DevS) (hs : s.Ok n) (L : LogV) (hL : L.In) (hlb : L.lbad = false) (hb : L.sbad = false) (area length : Int) (ha : I64 area) (hl : I64 length) :
    Spec Tryd.prog W B 27 [.pointer (some ⟨l, 0, none⟩), .int .i64 area, .int .i64 length] (logC l q p L ++ devC p bn bw bl n s)
      (fun v post => v = .int .i64 (resetL n s L area length).1 ∧ post = logC l q p (resetL n s L area length).2.2 ++ devC p bn bw bl n (resetL n s L area length).2.1) := by
  have hset := wal_sets W B l q p bn bw bl n s hs L hL hb area length ha hl 0 (by omega)
  unfold resetL
  generalize setsL n s L area length 0 = y at hset ⊢
  obtain ⟨e, d, L'⟩ := y
  refine Spec.enter ([[cr l 81 [.pointer (some ⟨p, 0, none⟩), .pointer (some ⟨q, 0, none⟩), .int .i64 L.area, .int .i64 L.length, .int .i64 (L.used : Int), .bool L.lbad]], [slC q p L.serial L.sbad], devC p bn bw bl n s]) Tryd.func27 rfl Tryd.ntmps27 rfl (by first | rfl | simp) (fun w0 => ?_)
  refine CW.seq ?_
  refine CW.region ?_
  refine LW.assign rfl rfl ?_
  refine LW.nil ?_
  refine NW.then_ ?_
  refine CW.seq ?_
  refine CW.seq ?_
  refine CW.region ?_
  refine LW.move rfl rfl ?_
  refine LW.ptrNil _ rfl Tryd.underlying23 rfl rfl ?_
  refine LW.move rfl rfl ?_
  refine LW.on 10 rfl rfl ?_
  refine LW.move rfl rfl ?_
  refine LW.on 10 rfl rfl ?_
  refine LW.nilPtr rfl rfl ?_
  refine LW.on 10 rfl rfl ?_
  refine LW.fieldAddr _ rfl (fun _ => FactsWal3.fa81_5 _ _ _) rfl ?_
  refine LW.on 10 rfl rfl ?_
  refine LW.load (v := .bool false) rfl (by repeat (first | exact Take.head _ _ | apply Take.tail)) (by rw [hlb]; rfl) FactsWal3.one4 rfl ?_
  refine LW.pickF rfl rfl rfl ?_
  refine LW.nil ?_
  refine NW.then_ ?_
  refine CW.cond_false rfl ?_
  refine CW.skip ?_
  refine NW.then_ ?_
  refine CW.seq ?_
  refine CW.region ?_
  refine LW.move rfl rfl ?_
  refine LW.move rfl rfl ?_
  refine LW.move rfl rfl ?_
  refine LW.call (hset) Tryd.func46 rfl FactsWal3.fname46 ⟨rfl, rfl, rfl, rfl, trivial⟩ (Take.both (Take.both (p := [_]) (by repeat (first | exact Take.head _ _ | apply Take.tail)) (by repeat (first | exact Take.head _ _ | apply Take.tail))) (by repeat (first | exact Take.head _ _ | apply Take.tail))) rfl ?_
  rintro _ _ ⟨rfl, rfl⟩; refine LW.split2 (LW.split2 ?_)
  refine LW.assign rfl rfl ?_
  refine LW.nil ?_
  refine NW.then_ ?_
  refine CW.seq ?_
  refine CW.region ?_
  refine LW.move rfl rfl ?_
  refine LW.move rfl rfl ?_
  refine LW.neq (decide (e ≠ 0)) rfl rfl (by by_cases h : e = 0 <;> simp [h]) rfl ?_
  refine LW.nilPtr rfl rfl ?_
  refine LW.fieldAddr _ rfl (fun _ => FactsWal3.fa81_5 _ _ _) rfl ?_
  refine LW.store rfl rfl (by repeat (first | exact Take.head _ _ | apply Take.tail)) (by exact (by decide : 5 < 6)) FactsWal3.sz4 (rfl) ?_
  refine LW.nil ?_
  refine NW.then_ ?_
  refine CW.seq ?_
  refine CW.region ?_
  refine LW.move rfl rfl ?_
  refine LW.assign rfl rfl ?_
  refine LW.nil ?_
  refine NW.then_ ?_
  refine CW.ret ?_
  refine NW.ret1 rfl rfl ⟨_, ⟨rfl, rfl⟩, ?_⟩
  exact Sub.take (Take.both (p := [_]) (by repeat (first | exact Take.head _ _ | apply Take.tail)) (by repeat (first | exact Take.head _ _ | apply Take.tail))) (Sub.one (by repeat (first | exact Take.head _ _ | apply Take.tail)))
theorem wal_Reset_bad (l q p : Nat) (L : LogV) (hlb : L.lbad = true) (area length : Int) :
    Spec Tryd.prog W B 27 [.pointer (some ⟨l, 0, none⟩), .int .i64 area, .int .i64 length] [logR l q p L] (fun v post => v = .int .i64 9 ∧ post = [logR l q p L]) := by
  refine Spec.enter ([[cr l 81 [.pointer (some ⟨p, 0, none⟩), .pointer (some ⟨q, 0, none⟩), .int .i64 L.area, .int .i64 L.length, .int .i64 (L.used : Int), .bool L.lbad]]]) Tryd.func27 rfl Tryd.ntmps27 rfl (by first | rfl | simp) (fun w0 => ?_)
  refine CW.seq ?_
  refine CW.region ?_
  refine LW.assign rfl rfl ?_
  refine LW.nil ?_
  refine NW.then_ ?_
  refine CW.seq ?_
  refine CW.seq ?_
  refine CW.region ?_
  refine LW.move rfl rfl ?_
  refine LW.ptrNil _ rfl Tryd.underlying23 rfl rfl ?_
  refine LW.move rfl rfl ?_
  refine LW.on 10 rfl rfl ?_
  refine LW.move rfl rfl ?_
  refine LW.on 10 rfl rfl ?_
  refine LW.nilPtr rfl rfl ?_
  refine LW.on 10 rfl rfl ?_
  refine LW.fieldAddr _ rfl (fun _ => FactsWal3.fa81_5 _ _ _) rfl ?_
  refine LW.on 10 rfl rfl ?_
  refine LW.load (v := .bool true) rfl (by repeat (first | exact Take.head _ _ | apply Take.tail)) (by rw [hlb]; rfl) FactsWal3.one4 rfl ?_
  refine LW.pickF rfl rfl rfl ?_
  refine LW.nil ?_
  refine NW.then_ ?_
  refine CW.cond_true rfl ?_
  refine CW.seq ?_
  refine CW.region ?_
  refine LW.assign rfl rfl ?_
  refine LW.nil ?_
  refine NW.then_ ?_
  refine CW.ret ?_
  refine NW.then_ret ?_
  refine NW.ret1 rfl rfl ⟨_, ⟨rfl, rfl⟩, ?_⟩
  exact Sub.one (by repeat (first | exact Take.head _ _ | apply Take.tail))
theorem wal_Append_bad (l q p : Nat) (L : LogV) (hlb : L.lbad = true) (A : Option Addr) (m cp : Nat) :
    Spec Tryd.prog W B 25 [.pointer (some ⟨l, 0, none⟩), .slice A m cp] [logR l q p L] (fun v post => v = .int .i64 9 ∧ post = [logR l q p L]) := by
  refine Spec.enter ([[cr l 81 [.pointer (some ⟨p, 0, none⟩), .pointer (some ⟨q, 0, none⟩), .int .i64 L.area, .int .i64 L.length, .int .i64 (L.used : Int), .bool L.lbad]]]) Tryd.func25 rfl Tryd.ntmps25 rfl (by first | rfl | simp) (fun w0 => ?_)
  refine CW.seq ?_
  refine CW.region ?_
  refine LW.assign rfl rfl ?_
  refine LW.nil ?_
  refine NW.then_ ?_
  refine CW.seq ?_
  refine CW.block ?_
  refine CW.seq ?_
  refine CW.region ?_
  refine LW.move rfl rfl ?_
  refine LW.ptrNil _ rfl Tryd.underlying23 rfl rfl ?_
  refine LW.move rfl rfl ?_
  refine LW.on 9 rfl rfl ?_
  refine LW.move rfl rfl ?_
  refine LW.on 9 rfl rfl ?_
  refine LW.nilPtr rfl rfl ?_
  refine LW.on 9 rfl rfl ?_
  refine LW.fieldAddr _ rfl (fun _ => FactsWal3.fa81_5 _ _ _) rfl ?_
  refine LW.on 9 rfl rfl ?_
  refine LW.load (v := .bool true) rfl (by repeat (first | exact Take.head _ _ | apply Take.tail)) (by rw [hlb]; rfl) FactsWal3.one4 rfl ?_
  refine LW.pickF rfl rfl rfl ?_
  refine LW.assign rfl rfl ?_
  refine LW.nil ?_
  refine NW.then_ ?_
  refine CW.cond_true rfl ?_
  refine CW.seq ?_
  refine CW.region ?_
  refine LW.assign rfl rfl ?_
  refine LW.nil ?_
  refine NW.then_ ?_
  refine CW.ret ?_
  refine NW.block_ret ?_
  refine NW.then_ret ?_
  refine NW.ret1 rfl rfl ⟨_, ⟨rfl, rfl⟩, ?_⟩
  exact Sub.one (by repeat (first | exact Take.head _ _ | apply Take.tail))

theorem u8len (k : Nat) : IntKind.u8.wrap (k : Int) = ((UInt8.ofNat k).toNat : Int) := by
  rw [wrap_u8, UInt8.toNat_ofNat', UInt8.toNat_ofNat']
  omega
set_option maxHeartbeats 1000000 in
theorem wal_Append (l q p bn bw bl n : Nat) (s : DevS) (hs : s.Ok n) (L : LogV) (hL : L.In) (hlb : L.lbad = false) (hb : L.sbad = false) (b : List UInt8) (src : List Row) (A : Option Addr) (cp : Nat) (hbn : b.length ≤ 1000000000) (hsrc : Src W B src A (b.map u8v)) :
    Spec Tryd.prog W B 25 [.pointer (some ⟨l, 0, none⟩), .slice A b.length cp] (src ++ (logC l q p L ++ devC p bn bw bl n s))
      (fun v post => v = .int .i64 (appendL n s L b).1 ∧ post = src ++ (logC l q p (appendL n s L b).2.2 ++ devC p bn bw bl n (appendL n s L b).2.1)) := by
  have hn0 := hs.n0
  have hn1 := hs.n1
  have hu9 := hL.used
  have ha1 : b.length < 1 ∨ 1000 < b.length → appendL n s L b = (1, s, L) := fun h => by rw [appendL, if_pos h]
  have ha2 : ¬ (b.length < 1 ∨ 1000 < b.length) → (ringN n : Int) - (L.used : Int) < ((b.length + 2 : Nat) : Int) → appendL n s L b = (5, s, L) := fun h h' => by rw [appendL, if_neg h, if_pos h']
  have ha3 : ¬ (b.length < 1 ∨ 1000 < b.length) → ¬ (ringN n : Int) - (L.used : Int) < ((b.length + 2 : Nat) : Int) → (writeL n s L.used (recB b)).1 = 0 → appendL n s L b = ((setsL n (writeL n s L.used (recB b)).2 L L.area L.length (L.used + b.length + 2)).1, (setsL n (writeL n s L.used (recB b)).2 L L.area L.length (L.used + b.length + 2)).2.1, { (setsL n (writeL n s L.used (recB b)).2 L L.area L.length (L.used + b.length + 2)).2.2 with lbad := decide ((setsL n (writeL n s L.used (recB b)).2 L L.area L.length (L.used + b.length + 2)).1 ≠ 0) }) := fun h h' h'' => by rw [appendL, if_neg h, if_neg h', if_pos h'']
  have ha4 : ¬ (b.length < 1 ∨ 1000 < b.length) → ¬ (ringN n : Int) - (L.used : Int) < ((b.length + 2 : Nat) : Int) → (writeL n s L.used (recB b)).1 ≠ 0 → appendL n s L b = ((writeL n s L.used (recB b)).1, (writeL n s L.used (recB b)).2, { L with lbad := true }) := fun h h' h'' => by rw [appendL, if_neg h, if_neg h', if_neg h'']
  have hrl : (recB b).length = b.length + 2 := recB_len b
  refine Spec.enter ([src, [cr l 81 [.pointer (some ⟨p, 0, none⟩), .pointer (some ⟨q, 0, none⟩), .int .i64 L.area, .int .i64 L.length, .int .i64 (L.used : Int), .bool L.lbad]], [slC q p L.serial L.sbad], devC p bn bw bl n s]) Tryd.func25 rfl Tryd.ntmps25 rfl (by first | rfl | simp) (fun w0 => ?_)
  refine CW.seq ?_
  refine CW.region ?_
  refine LW.assign rfl rfl ?_
  refine LW.nil ?_
  refine NW.then_ ?_
  refine CW.seq ?_
  refine CW.block ?_
  refine CW.seq ?_
  refine CW.region ?_
  refine LW.move rfl rfl ?_
  refine LW.ptrNil _ rfl Tryd.underlying23 rfl rfl ?_
  refine LW.move rfl rfl ?_
  refine LW.on 9 rfl rfl ?_
  refine LW.move rfl rfl ?_
  refine LW.on 9 rfl rfl ?_
  refine LW.nilPtr rfl rfl ?_
  refine LW.on 9 rfl rfl ?_
  refine LW.fieldAddr _ rfl (fun _ => FactsWal3.fa81_5 _ _ _) rfl ?_
  refine LW.on 9 rfl rfl ?_
  refine LW.load (v := .bool false) rfl (by repeat (first | exact Take.head _ _ | apply Take.tail)) (by rw [hlb]; rfl) FactsWal3.one4 rfl ?_
  refine LW.pickF rfl rfl rfl ?_
  refine LW.assign rfl rfl ?_
  refine LW.nil ?_
  refine NW.then_ ?_
  refine CW.cond_false rfl ?_
  refine CW.seq ?_
  refine CW.region ?_
  refine LW.move rfl rfl ?_
  refine LW.lenSlice rfl Tryd.underlying31 rfl ?_
  by_cases hb1 : b.length < 1
  · refine LW.lss true rfl rfl (decide_eq_true (by omega)) rfl ?_
    refine LW.move rfl rfl ?_
    refine LW.off 19 rfl rfl rfl rfl ?_
    refine LW.off 19 rfl rfl rfl rfl ?_
    refine LW.off 19 rfl rfl rfl rfl ?_
    refine LW.pickT rfl rfl rfl ?_
    refine LW.assign rfl rfl ?_
    refine LW.nil ?_
    refine NW.then_ ?_
    refine CW.cond_true rfl ?_
    refine CW.seq ?_
    have hap := ha1 (by omega)
    refine CW.region ?_
    refine LW.assign rfl rfl ?_
    refine LW.nil ?_
    refine NW.then_ ?_
    refine CW.ret ?_
    refine NW.block_ret ?_
    refine NW.then_ret ?_
    refine NW.ret1 rfl rfl ⟨_, ⟨by rw [hap], by rw [hap]⟩, ?_⟩
    exact Sub.app (by repeat (first | exact Take.head _ _ | apply Take.tail)) (Sub.take (Take.both (p := [_]) (by repeat (first | exact Take.head _ _ | apply Take.tail)) (by repeat (first | exact Take.head _ _ | apply Take.tail))) (Sub.one (by repeat (first | exact Take.head _ _ | apply Take.tail))))
  · refine LW.lss false rfl rfl (decide_eq_false (by omega)) rfl ?_
    refine LW.move rfl rfl ?_
    refine LW.on 19 rfl rfl ?_
    refine LW.move rfl rfl ?_
    refine LW.on 19 rfl rfl ?_
    refine LW.lenSlice rfl Tryd.underlying31 rfl ?_
    by_cases hb2 : 1000 < b.length
    · refine LW.on 19 rfl rfl ?_
      refine LW.gtr true rfl rfl (decide_eq_true (by omega)) rfl ?_
      refine LW.pickF rfl rfl rfl ?_
      refine LW.assign rfl rfl ?_
      refine LW.nil ?_
      refine NW.then_ ?_
      refine CW.cond_true rfl ?_
      refine CW.seq ?_
      have hap := ha1 (by omega)
      refine CW.region ?_
      refine LW.assign rfl rfl ?_
      refine LW.nil ?_
      refine NW.then_ ?_
      refine CW.ret ?_
      refine NW.block_ret ?_
      refine NW.then_ret ?_
      refine NW.ret1 rfl rfl ⟨_, ⟨by rw [hap], by rw [hap]⟩, ?_⟩
      exact Sub.app (by repeat (first | exact Take.head _ _ | apply Take.tail)) (Sub.take (Take.both (p := [_]) (by repeat (first | exact Take.head _ _ | apply Take.tail)) (by repeat (first | exact Take.head _ _ | apply Take.tail))) (Sub.one (by repeat (first | exact Take.head _ _ | apply Take.tail))))
    · refine LW.on 19 rfl rfl ?_
      refine LW.gtr false rfl rfl (decide_eq_false (by omega)) rfl ?_
      refine LW.pickF rfl rfl rfl ?_
      refine LW.assign rfl rfl ?_
      refine LW.nil ?_
      refine NW.then_ ?_
      refine CW.cond_false rfl ?_
      refine CW.seq ?_
      replace ha2 := ha2 (by omega)
      replace ha3 := ha3 (by omega)
      replace ha4 := ha4 (by omega)
      refine CW.region ?_
      refine LW.move rfl rfl ?_
      refine LW.lenSlice rfl Tryd.underlying31 rfl ?_
      refine LW.add64 rfl rfl (by omega) (by omega) rfl ?_
      refine LW.move rfl rfl ?_
      refine LW.call (wal_Room W B l q p bn bw bl n s hn0 hn1 L hu9) Tryd.func24 rfl FactsWal3.fname24 ⟨rfl, trivial⟩ (Take.both (by repeat (first | exact Take.head _ _ | apply Take.tail)) (by repeat (first | exact Take.head _ _ | apply Take.tail))) rfl ?_
      rintro _ _ ⟨rfl, rfl⟩; refine LW.split2 ?_
      by_cases hroom : (ringN n : Int) - (L.used : Int) < ((b.length + 2 : Nat) : Int)
      · refine LW.gtr true rfl rfl (decide_eq_true (by omega)) rfl ?_
        refine LW.assign rfl rfl ?_
        refine LW.nil ?_
        refine NW.then_ ?_
        refine CW.cond_true rfl ?_
        refine CW.seq ?_
        have hap := ha2 hroom
        refine CW.region ?_
        refine LW.assign rfl rfl ?_
        refine LW.nil ?_
        refine NW.then_ ?_
        refine CW.ret ?_
        refine NW.block_ret ?_
        refine NW.then_ret ?_
        refine NW.ret1 rfl rfl ⟨_, ⟨by rw [hap], by rw [hap]⟩, ?_⟩
        exact Sub.app (by repeat (first | exact Take.head _ _ | apply Take.tail)) (Sub.take (Take.both (p := [_]) (by repeat (first | exact Take.head _ _ | apply Take.tail)) (by repeat (first | exact Take.head _ _ | apply Take.tail))) (Sub.one (by repeat (first | exact Take.head _ _ | apply Take.tail))))
      · refine LW.gtr false rfl rfl (decide_eq_false (by omega)) rfl ?_
        refine LW.assign rfl rfl ?_
        refine LW.nil ?_
        refine NW.then_ ?_
        refine CW.cond_false rfl ?_
        refine CW.skip ?_
        refine NW.block ?_
        refine NW.then_ ?_
        refine CW.seq ?_
        replace ha3 := ha3 hroom
        replace ha4 := ha4 hroom
        have huse : L.used < ringN n := by omega
        refine CW.region ?_
        refine LW.move rfl rfl ?_
        refine LW.move rfl rfl ?_
        refine LW.lenSlice rfl Tryd.underlying31 rfl ?_
        refine LW.convInt (((UInt8.ofNat b.length).toNat : Int)) rfl Tryd.underlying3 Tryd.underlying5 (u8len _) rfl ?_
        refine LW.move rfl rfl ?_
        refine LW.lenSlice rfl Tryd.underlying31 rfl ?_
        refine LW.shr (((b.length / 256 : Nat) : Int)) rfl rfl (by decide) ((by rw [show min (8 : Int).toNat IntKind.i64.bits = 8 from rfl, Int.fdiv_eq_ediv_of_nonneg _ (by decide)]; omega)) rfl ?_
        refine LW.convInt (((UInt8.ofNat (b.length / 256)).toNat : Int)) rfl Tryd.underlying3 Tryd.underlying5 (u8len _) rfl ?_
        refine LW.buildSlice (vs := [_, _]) ⟨rfl, rfl, trivial⟩ rfl (by intro v hv; simp at hv; rcases hv with rfl | rfl <;> rfl) Tryd.underlying31 FactsWal3.info5 rfl (by decide) (by decide) rfl ?_
        intro bs39
        refine LW.move rfl rfl ?_
        refine LW.append (b.map u8v) rfl rfl Tryd.underlying31 Tryd.underlying31 (.inr ⟨_, rfl⟩) FactsWal3.info5 rfl ((OwnS.row rfl : OwnS 5 1 (.slice (some ⟨bs39, 0, none⟩) 2 2) 2 ([UInt8.ofNat b.length, UInt8.ofNat (b.length / 256)].map u8v) [cr bs39 5 ([UInt8.ofNat b.length, UInt8.ofNat (b.length / 256)].map u8v)])) (by repeat (first | exact Take.head _ _ | apply Take.tail)) (fun _ => lenOf_slice _ _ _ _) (first_rd (hsrc.rd (by repeat (first | exact Take.head _ _ | apply Take.tail))) (by simp) (fun h => by exfalso; obtain ⟨x, hx⟩ := hsrc.some (by rw [List.length_map]; omega); rw [hx] at h; cases h)) (by simp) (u8vs_one _) (by omega) (by omega) rfl ?_
        intro v5 ch5 ho5; replace ho5 := OwnB.app ho5 rfl rfl; rw [show [UInt8.ofNat b.length, UInt8.ofNat (b.length / 256)] ++ b = recB b from rfl] at ho5; obtain ⟨A5, cp5, rfl, hA5, hc5⟩ := OwnS.val ho5
        refine LW.call (wal_write W B l q p bn bw bl n s hs L huse (recB b) (by omega) (by omega) ch5 A5 cp5 (OwnS.src ho5)) Tryd.func45 rfl FactsWal3.fname45 ⟨rfl, rfl, trivial⟩ (Take.both (by repeat (first | exact Take.head _ _ | apply Take.tail)) (Take.both (by repeat (first | exact Take.head _ _ | apply Take.tail)) (by repeat (first | exact Take.head _ _ | apply Take.tail)))) rfl ?_
        rintro _ _ ⟨rfl, rfl⟩; refine LW.split2 (LW.split2p ?_)
        refine LW.assign rfl rfl ?_
        refine LW.nil ?_
        refine NW.then_ ?_
        refine CW.cut (fun st : Int × DevS × LogV => [(5, .int .i64 st.1), (0, .pointer (some ⟨l, 0, none⟩))]) (fun st => [src, [cr l 81 [.pointer (some ⟨p, 0, none⟩), .pointer (some ⟨q, 0, none⟩), .int .i64 st.2.2.area, .int .i64 st.2.2.length, .int .i64 (st.2.2.used : Int), .bool st.2.2.lbad]], [slC q p st.2.2.serial st.2.2.sbad], devC p bn bw bl n st.2.1]) (fun st => appendL n s L b = (st.1, st.2.1, { st.2.2 with lbad := decide (st.1 ≠ 0) })) ?cut10_1 ?cut10_2
        case cut10_1 =>
          refine CW.seq ?_
          have hdw := writeL_dev hs L.used (recB b)
          generalize writeL n s L.used (recB b) = y at ha3 ha4 hdw ⊢
          obtain ⟨e1, d1⟩ := y
          dsimp only at ha3 ha4 hdw
          refine CW.region ?_
          refine LW.move rfl rfl ?_
          refine LW.eql _ rfl rfl rfl rfl ?_
          refine LW.nil ?_
          refine NW.then_ ?_
          refine CW.cond rfl (fun hc44 => ?_) (fun hc44 => ?_)
          · replace hc44 := beq_iff_eq.1 hc44
            try dsimp only at hc44
            replace ha3 := ha3 hc44
            have hset := wal_sets W B l q p bn bw bl n d1 hdw L hL hb L.area L.length hL.area hL.length (L.used + b.length + 2) (by have : ringN n ≤ 262144 := (by unfold ringN; omega); omega)
            generalize setsL n d1 L L.area L.length (L.used + b.length + 2) = z at hset ha3
            obtain ⟨e2, d2, L2⟩ := z
            dsimp only at ha3 hset
            refine CW.drawT [cr l 81 [.pointer (some ⟨p, 0, none⟩), .pointer (some ⟨q, 0, none⟩), .int .i64 L.area, .int .i64 L.length, .int .i64 (L.used : Int), .bool L.lbad]] 17 FactsWal3.mixed ?_
            refine AT.takes [(0, none), (1, none), (2, none), (3, none), (4, some []), (5, none), (6, none), (7, none), (8, some []), (9, none), (10, none), (11, none), (12, some [15, 16]), (13, none), (14, none), (15, none), (16, none)] 2 (by kernel_rfl) (by kernel_rfl) rfl (by repeat (first | exact PO.body | refine PO.then_ ?_ | refine PO.block ?_ | refine PO.noGoto ?_)) (fun _ => (fun _ s => Held.of s (by repeat (first | exact Sub.nil _ | refine Sub.cons1 (by repeat (first | exact Take.head _ _ | apply Take.tail)) ?_)))) ?_
            refine TT.take rfl (Yl.move rfl) rfl ?_
            refine TT.take rfl (Yl.move rfl) rfl ?_
            refine TT.take rfl (Yl.nilPtr rfl) rfl ?_
            refine TT.take rfl (Yl.fieldAddr _ rfl (fun _ => FactsWal3.fa81_2 _ _ _)) rfl ?_
            refine TT.takeH rfl (Yl.load rfl (by repeat (first | exact List.Mem.head _ | refine List.Mem.tail _ ?_)) rfl FactsWal3.one2) rfl ?_
            refine TT.take rfl (Yl.move rfl) rfl ?_
            refine TT.take rfl (Yl.nilPtr rfl) rfl ?_
            refine TT.take rfl (Yl.fieldAddr _ rfl (fun _ => FactsWal3.fa81_3 _ _ _)) rfl ?_
            refine TT.takeH rfl (Yl.load rfl (by repeat (first | exact List.Mem.head _ | refine List.Mem.tail _ ?_)) rfl FactsWal3.one2) rfl ?_
            refine TT.take rfl (Yl.move rfl) rfl ?_
            refine TT.take rfl (Yl.nilPtr rfl) rfl ?_
            refine TT.take rfl (Yl.fieldAddr _ rfl (fun _ => FactsWal3.fa81_4 _ _ _)) rfl ?_
            refine TT.takeH rfl (Yl.load rfl (by repeat (first | exact List.Mem.head _ | refine List.Mem.tail _ ?_)) rfl FactsWal3.one3) rfl ?_
            refine TT.take rfl (Yl.move rfl) rfl ?_
            refine TT.take rfl (Yl.lenSlice rfl Tryd.underlying31) rfl ?_
            refine TT.take rfl (Yl.add64 rfl rfl (by omega) (by omega)) rfl ?_
            refine TT.take rfl (Yl.add (((L.used + b.length + 2 : Nat) : Int)) rfl rfl ((by exact wr64 (by omega) (by omega) (by omega)))) rfl ?_
            refine TT.nil ?_
            refine AT.act 17 (by kernel_rfl) rfl ?_
            refine LW.call (hset) Tryd.func46 rfl FactsWal3.fname46 ⟨rfl, rfl, rfl, rfl, trivial⟩ (Take.both (Take.both (p := [_]) (by repeat (first | exact Take.head _ _ | apply Take.tail)) (by repeat (first | exact Take.head _ _ | apply Take.tail))) (by repeat (first | exact Take.head _ _ | apply Take.tail))) rfl ?_
            rintro _ _ ⟨rfl, rfl⟩; refine LW.split2 (LW.split2 ?_)
            refine LW.nil ?_
            refine AT.backK (by kernel_rfl) ?_
            refine AT.takes [(18, none)] 0 (by kernel_rfl) (by kernel_rfl) rfl (by repeat (first | exact PO.body | refine PO.then_ ?_ | refine PO.block ?_ | refine PO.noGoto ?_)) (fun hl _ _ => (no_tf (by kernel_rfl) hl).elim) ?_
            refine TT.take rfl (Yl.assign rfl) rfl ?_
            refine TT.nil ?_
            refine AT.done (by kernel_rfl) ?_
            refine NW.meet ((e2, d2, L2)) ?j1 ?e1 ?h1
            case j1 => exact ha3
            case e1 => repeat (first | exact Env.Le.nil _ | refine Env.Le.cons rfl ?_)
            case h1 => repeat (first | exact Sub.heap_nil _ | exact Sub.refl _ | refine Sub.heap_cons (Take.none _) ?_ | refine Sub.heap_cons (by repeat (first | exact Take.head _ _ | apply Take.tail)) ?_)
          · replace hc44 := beq_eq_false_iff_ne.1 hc44
            try dsimp only at hc44
            replace ha4 := ha4 hc44
            refine CW.skip ?_
            refine NW.meet ((e1, d1, L)) ?j2 ?e2 ?h2
            case j2 => rw [ha4]; simp [hc44]
            case e2 => repeat (first | exact Env.Le.nil _ | refine Env.Le.cons rfl ?_)
            case h2 => repeat (first | exact Sub.heap_nil _ | exact Sub.refl _ | refine Sub.heap_cons (Take.none _) ?_ | refine Sub.heap_cons (by repeat (first | exact Take.head _ _ | apply Take.tail)) ?_)
        case cut10_2 =>
          rintro ⟨e, d, L'⟩ hap; dsimp only at hap
          try dsimp only
          refine CW.seq ?_
          refine CW.region ?_
          refine LW.move rfl rfl ?_
          refine LW.move rfl rfl ?_
          refine LW.neq (decide (e ≠ 0)) rfl rfl (by by_cases h : e = 0 <;> simp [h]) rfl ?_
          refine LW.nilPtr rfl rfl ?_
          refine LW.fieldAddr _ rfl (fun _ => FactsWal3.fa81_5 _ _ _) rfl ?_
          refine LW.store rfl rfl (by repeat (first | exact Take.head _ _ | apply Take.tail)) (by first | decide | exact Nat.lt_of_sub_pos (by rfl) | (simp; done) | simp [devHead]) FactsWal3.sz4 (rfl) ?_
          refine LW.nil ?_
          refine NW.then_ ?_
          refine CW.seq ?_
          refine CW.region ?_
          refine LW.move rfl rfl ?_
          refine LW.assign rfl rfl ?_
          refine LW.nil ?_
          refine NW.then_ ?_
          refine CW.ret ?_
          refine NW.ret1 rfl rfl ⟨_, ⟨by rw [hap], by rw [hap]⟩, ?_⟩
          exact Sub.app (by repeat (first | exact Take.head _ _ | apply Take.tail)) (Sub.take (Take.both (p := [_]) (by repeat (first | exact Take.head _ _ | apply Take.tail)) (by repeat (first | exact Take.head _ _ | apply Take.tail))) (Sub.one (by repeat (first | exact Take.head _ _ | apply Take.tail))))
end
end Go.Proofs.YtpnhonhjheahhaaDoor
