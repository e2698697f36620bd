/-
  SLOTS: the newest; set, made, opened: the contracts.
-/
import Derived.Test.YtpnhonhjheahhaaDoorSlot1
namespace Go.Proofs.YtpnhonhjheahhaaDoor
open Go.RowKit
namespace FactsSlot2
theorem fa94_0 (b o : Nat) (w : World) : (Instr.fieldAt 94 (.pointer (some ⟨b, o, none⟩)) 0).run Tryd.prog w = .ok (.pointer (some ⟨b, o, none⟩)) w := by kernel_rfl
theorem fa94_1 (b o : Nat) (w : World) : (Instr.fieldAt 94 (.pointer (some ⟨b, o, none⟩)) 1).run Tryd.prog w = .ok (.pointer (some ⟨b, o + 1, none⟩)) w := by kernel_rfl
theorem fa94_2 (b o : Nat) (w : World) : (Instr.fieldAt 94 (.pointer (some ⟨b, o, none⟩)) 2).run Tryd.prog w = .ok (.pointer (some ⟨b, o + 2, none⟩)) w := by kernel_rfl
theorem fname35 : (Tryd.f35.name == "runtime.NumGoroutine") = false := by kernel_rfl
theorem fname39 : (Tryd.f39.name == "runtime.NumGoroutine") = false := by kernel_rfl
theorem fname50 : (Tryd.f50.name == "runtime.NumGoroutine") = false := by kernel_rfl
theorem fname52 : (Tryd.f52.name == "runtime.NumGoroutine") = false := by kernel_rfl
theorem fname53 : (Tryd.f53.name == "runtime.NumGoroutine") = false := by kernel_rfl
theorem fname58 : (Tryd.f58.name == "runtime.NumGoroutine") = false := by kernel_rfl
theorem mixed : Tryd.prog.follows .mixedOrders = true := by kernel_rfl
theorem one2 : oneB Tryd.prog 2 = true := by kernel_rfl
theorem one27 : oneB Tryd.prog 27 = true := by kernel_rfl
theorem one4 : oneB Tryd.prog 4 = true := by kernel_rfl
theorem sz2 : (Tryd.prog.info? 2).map (·.size) = some 1 := by kernel_rfl
theorem sz4 : (Tryd.prog.info? 4).map (·.size) = some 1 := by kernel_rfl
end FactsSlot2
def newestS (N : Nat → List UInt8) : Int × List Int := if (slotGet (N 0) 0).1 > (slotGet (N 1) 1).1 then slotGet (N 0) 0 else slotGet (N 1) 1
def DevS.N (s : DevS) (i : Nat) : List UInt8 := s.now.getD i []
def DevS.V (s : DevS) (i : Nat) : List UInt8 := s.was.getD i []
def slC (q p : Nat) (serial : Int) (bad : Bool) : Row := cr q 94 [.pointer (some ⟨p, 0, none⟩), .int .i64 serial, .bool bad]
/-- A set: its error, the device behind it. -/
def setS (n : Nat) (d : DevS) (serial : Int) (ns : List Int) : Int × DevS :=
  if d.err n ((serial + 1).tmod 2) 64 = 0 then ((d.write n ((serial + 1).tmod 2) (slotB (serial + 1) ns)).flushE, (d.write n ((serial + 1).tmod 2) (slotB (serial + 1) ns)).flush n)
  else (d.err n ((serial + 1).tmod 2) 64, d.write n ((serial + 1).tmod 2) (slotB (serial + 1) ns))
theorem setS_ok {n : Nat} {d : DevS} (hd : d.Ok n) (serial : Int) (ns : List Int) : (setS n d serial ns).2.Ok n := by
  unfold setS
  split
  · exact (hd.write _ _).flush
  · exact hd.write _ _
section
variable (W : World) (B : Nat)
theorem slot_newest (p bn bw bl n : Nat) (s : DevS) (hs : s.Ok n) :
    Spec Tryd.prog W B 50 [.pointer (some ⟨p, 0, none⟩)] (devC p bn bw bl n s)
      (fun v post => ∃ v2 ch, v = .tuple #[.int .i64 (newestS s.N).1, v2] ∧ OwnS 2 1 v2 (newestS s.N).2.length ((newestS s.N).2.map i64v) ch ∧ post = ch ++ devC p bn bw bl n s) := by
  have hn0 := hs.n0
  have hg0 := slot_get W B p bn bw bl n s hs 0 (by omega)
  have hg1 := slot_get W B p bn bw bl n s hs 1 (by omega)
  have hN0 : s.now.getD 0 [] = s.N 0 := rfl
  have hN1 : s.now.getD 1 [] = s.N 1 := rfl
  have h01 : ((0 : Nat) : Int) = 0 := rfl
  have h11 : ((1 : Nat) : Int) = 1 := rfl
  rw [hN0, h01] at hg0
  rw [hN1, h11] at hg1
  have hyes : (slotGet (s.N 0) 0).1 > (slotGet (s.N 1) 1).1 → newestS s.N = slotGet (s.N 0) 0 := fun h => by rw [newestS, if_pos h]
  have hno : ¬ (slotGet (s.N 0) 0).1 > (slotGet (s.N 1) 1).1 → newestS s.N = slotGet (s.N 1) 1 := fun h => by rw [newestS, if_neg h]
  generalize slotGet (s.N 0) 0 = x at hg0 hyes hno
  generalize slotGet (s.N 1) 1 = y at hg1 hyes hno
  refine Spec.enter ([devC p bn bw bl n s]) Tryd.func50 rfl Tryd.ntmps50 rfl (by first | rfl | simp) (fun w0 => ?_)
  refine CW.seq ?_
  refine CW.region ?_
  refine LW.assign rfl rfl ?_
  refine LW.assign rfl rfl ?_
  refine LW.nil ?_
  refine NW.then_ ?_
  refine CW.seq ?_
  refine CW.region ?_
  refine LW.move rfl rfl ?_
  refine LW.call (hg0) Tryd.func58 rfl FactsSlot2.fname58 ⟨rfl, rfl, trivial⟩ (by repeat (first | exact Take.head _ _ | apply Take.tail)) rfl ?_
  rintro _ _ ⟨v2, ch, rfl, ho, rfl⟩; refine LW.split2 ?_
  refine LW.move rfl rfl ?_
  refine LW.extract rfl rfl rfl ?_
  refine LW.extract rfl rfl rfl ?_
  refine LW.assign rfl rfl ?_
  refine LW.assign rfl rfl ?_
  refine LW.nil ?_
  refine NW.then_ ?_
  refine CW.seq ?_
  refine CW.region ?_
  refine LW.move rfl rfl ?_
  refine LW.call (hg1) Tryd.func58 rfl FactsSlot2.fname58 ⟨rfl, rfl, trivial⟩ (by repeat (first | exact Take.head _ _ | apply Take.tail)) rfl ?_
  rintro _ _ ⟨v3, ch3, rfl, ho3, rfl⟩; refine LW.split2 ?_
  refine LW.move rfl rfl ?_
  refine LW.extract rfl rfl rfl ?_
  refine LW.extract rfl rfl rfl ?_
  refine LW.assign rfl rfl ?_
  refine LW.assign rfl rfl ?_
  refine LW.nil ?_
  refine NW.then_ ?_
  refine CW.seq ?_
  refine CW.seq ?_
  refine CW.region ?_
  refine LW.move rfl rfl ?_
  refine LW.move rfl rfl ?_
  refine LW.gtr _ rfl rfl rfl rfl ?_
  refine LW.nil ?_
  refine NW.then_ ?_
  refine CW.cond rfl (fun hc20 => ?_) (fun hc20 => ?_)
  · replace hc20 := of_decide_eq_true hc20
    try dsimp only at hc20
    have hnw := hyes hc20
    refine CW.seq ?_
    refine CW.region ?_
    refine LW.move rfl rfl ?_
    refine LW.move rfl rfl ?_
    refine LW.assign rfl rfl ?_
    refine LW.assign rfl rfl ?_
    refine LW.nil ?_
    refine NW.then_ ?_
    refine CW.ret ?_
    refine NW.then_ret ?_
    refine NW.ret2 rfl rfl rfl ⟨_, ⟨v2, ch, by rw [hnw]; rfl, by rw [hnw]; exact ho, rfl⟩, ?_⟩
    exact Sub.take (by repeat (first | exact Take.head _ _ | apply Take.tail)) (Sub.one (by repeat (first | exact Take.head _ _ | apply Take.tail)))
  · replace hc20 := of_decide_eq_false hc20
    try dsimp only at hc20
    have hnw := hno hc20
    refine CW.skip ?_
    refine NW.then_ ?_
    refine CW.seq ?_
    refine CW.region ?_
    refine LW.move rfl rfl ?_
    refine LW.move rfl rfl ?_
    refine LW.assign rfl rfl ?_
    refine LW.assign rfl rfl ?_
    refine LW.nil ?_
    refine NW.then_ ?_
    refine CW.ret ?_
    refine NW.ret2 rfl rfl rfl ⟨_, ⟨v3, ch3, by rw [hnw]; rfl, by rw [hnw]; exact ho3, rfl⟩, ?_⟩
    exact Sub.take (by repeat (first | exact Take.head _ _ | apply Take.tail)) (Sub.one (by repeat (first | exact Take.head _ _ | apply Take.tail)))

theorem slot_Set (q p bn bw bl n : Nat) (s : DevS) (hs : s.Ok n) (serial : Int) (h0 : 0 ≤ serial) (h1 : serial ≤ 4611686018427387904) (ns : List Int) (hns : ∀ n ∈ ns, I64 n) (h4 : ns.length ≤ 4) (src : List Row) (A : Option Addr) (cp : Nat) (hsrc : Src W B src A (ns.map i64v)) :
    Spec Tryd.prog W B 35 [.pointer (some ⟨q, 0, none⟩), .slice A ns.length cp] (src ++ ([slC q p serial false] ++ devC p bn bw bl n s))
      (fun v post => v = .int .i64 (setS n s serial ns).1 ∧ post = src ++ ([slC q p (if (setS n s serial ns).1 = 0 then serial + 1 else serial) (decide ((setS n s serial ns).1 ≠ 0))] ++ devC p bn bw bl n (setS n s serial ns).2)) := by
  have hsB := slotB_len (serial + 1) ns
  have hyes : s.err n ((serial + 1).tmod 2) 64 = 0 → setS n s serial ns = ((s.write n ((serial + 1).tmod 2) (slotB (serial + 1) ns)).flushE, (s.write n ((serial + 1).tmod 2) (slotB (serial + 1) ns)).flush n) := fun h => by rw [setS, if_pos h]
  have hno : s.err n ((serial + 1).tmod 2) 64 ≠ 0 → setS n s serial ns = (s.err n ((serial + 1).tmod 2) 64, s.write n ((serial + 1).tmod 2) (slotB (serial + 1) ns)) := fun h => by rw [setS, if_neg h]
  refine Spec.enter ([src, [cr q 94 [.pointer (some ⟨p, 0, none⟩), .int .i64 serial, .bool false]], devC p bn bw bl n s]) Tryd.func35 rfl Tryd.ntmps35 rfl (by first | rfl | simp) (fun w0 => ?_)
  refine CW.seq ?_
  refine CW.region ?_
  refine LW.assign rfl rfl ?_
  refine LW.nil ?_
  refine NW.then_ ?_
  refine CW.seq ?_
  refine CW.block ?_
  refine CW.seq ?_
  refine CW.region ?_
  refine LW.move rfl rfl ?_
  refine LW.ptrNil _ rfl Tryd.underlying44 rfl rfl ?_
  refine LW.assign rfl rfl ?_
  refine LW.nil ?_
  refine NW.then_ ?_
  refine CW.cond_false rfl ?_
  refine CW.seq ?_
  refine CW.region ?_
  refine LW.move rfl rfl ?_
  refine LW.lenSlice rfl Tryd.underlying47 rfl ?_
  refine LW.gtr false rfl rfl (decide_eq_false (by omega)) rfl ?_
  refine LW.assign rfl rfl ?_
  refine LW.nil ?_
  refine NW.then_ ?_
  refine CW.cond_false rfl ?_
  refine CW.seq ?_
  refine CW.region ?_
  refine LW.move rfl rfl ?_
  refine LW.nilPtr rfl rfl ?_
  refine LW.fieldAddr _ rfl (fun _ => FactsSlot2.fa94_2 _ _ _) rfl ?_
  refine LW.load rfl (by repeat (first | exact Take.head _ _ | apply Take.tail)) rfl FactsSlot2.one4 rfl ?_
  refine LW.assign rfl rfl ?_
  refine LW.nil ?_
  refine NW.then_ ?_
  refine CW.cond_false rfl ?_
  refine CW.skip ?_
  refine NW.block ?_
  refine NW.then_ ?_
  refine CW.seq ?_
  refine CW.drawH [cr q 94 [.pointer (some ⟨p, 0, none⟩), .int .i64 serial, .bool false]] FactsSlot2.mixed ?_
  refine AW.takes [0, 1, 2, 3, 4, 5, 6, 7, 8, 9, 10, 11, 12, 13, 14, 15] 3 (by kernel_rfl) (by kernel_rfl) rfl (by repeat (first | exact PO.body | refine PO.then_ ?_ | refine PO.block ?_ | refine PO.noGoto ?_)) (fun _ s => Held.of s (by repeat (first | exact Sub.nil _ | refine Sub.cons1 (by repeat (first | exact Take.head _ _ | apply Take.tail)) ?_))) ?_
  refine TW.take rfl (Yl.move rfl) rfl ?_
  refine TW.take rfl (Yl.nilPtr rfl) rfl ?_
  refine TW.take rfl (Yl.fieldAddr _ rfl (fun _ => FactsSlot2.fa94_0 _ _ _)) rfl ?_
  refine TW.take rfl (Yl.load rfl (by repeat (first | exact List.Mem.head _ | refine List.Mem.tail _ ?_)) rfl FactsSlot2.one27) rfl ?_
  refine TW.take rfl (Yl.move rfl) rfl ?_
  refine TW.take rfl (Yl.nilPtr rfl) rfl ?_
  refine TW.take rfl (Yl.fieldAddr _ rfl (fun _ => FactsSlot2.fa94_1 _ _ _)) rfl ?_
  refine TW.take rfl (Yl.load rfl (by repeat (first | exact List.Mem.head _ | refine List.Mem.tail _ ?_)) rfl FactsSlot2.one2) rfl ?_
  refine TW.take rfl (Yl.add64 rfl rfl (by omega) (by omega)) rfl ?_
  refine TW.take rfl (Yl.rem ((serial + 1).tmod 2) rfl rfl (by decide) (rfl)) rfl ?_
  refine TW.take rfl (Yl.move rfl) rfl ?_
  refine TW.take rfl (Yl.nilPtr rfl) rfl ?_
  refine TW.take rfl (Yl.fieldAddr _ rfl (fun _ => FactsSlot2.fa94_1 _ _ _)) rfl ?_
  refine TW.take rfl (Yl.load rfl (by repeat (first | exact List.Mem.head _ | refine List.Mem.tail _ ?_)) rfl FactsSlot2.one2) rfl ?_
  refine TW.take rfl (Yl.add64 rfl rfl (by omega) (by omega)) rfl ?_
  refine TW.take rfl (Yl.move rfl) rfl ?_
  refine TW.nil ?_
  refine AW.act 16 (by kernel_rfl) rfl ?_
  refine LW.call (slot_put W B (serial + 1) ⟨by omega, by omega⟩ ns hns h4 src A cp hsrc) Tryd.func52 rfl FactsSlot2.fname52 ⟨rfl, rfl, trivial⟩ (by repeat (first | exact Take.head _ _ | apply Take.tail)) rfl ?_
  rintro _ _ ⟨A4, cp4, ch4, rfl, hs4, rfl⟩; refine LW.split2 ?_
  refine LW.nil ?_
  refine AW.back (fun _ s => Held.of s (by repeat (first | exact Sub.nil _ | refine Sub.cons1 (by repeat (first | exact Take.head _ _ | apply Take.tail)) ?_))) ?_
  refine AW.act 17 (by kernel_rfl) rfl ?_
  have hW := dev_WriteG W B p bn bw bl n s hs ((serial + 1).tmod 2) ch4 A4 cp4 (slotB (serial + 1) ns) hs4
  rw [hsB] at hW
  refine LW.call (hW) Tryd.func39 rfl FactsSlot2.fname39 ⟨rfl, rfl, rfl, trivial⟩ (Take.both (by repeat (first | exact Take.head _ _ | apply Take.tail)) (by repeat (first | exact Take.head _ _ | apply Take.tail))) rfl ?_
  rintro _ _ ⟨rfl, rfl⟩; refine LW.split2 ?_
  refine LW.nil ?_
  refine AW.back (fun _ s => Held.of s (by repeat (first | exact Sub.nil _ | refine Sub.cons1 (by repeat (first | exact Take.head _ _ | apply Take.tail)) ?_))) ?_
  refine AW.takes [18] 0 (by kernel_rfl) (by kernel_rfl) rfl (by repeat (first | exact PO.body | refine PO.then_ ?_ | refine PO.block ?_ | refine PO.noGoto ?_)) (fun _ s => Held.of s (by repeat (first | exact Sub.nil _ | refine Sub.cons1 (by repeat (first | exact Take.head _ _ | apply Take.tail)) ?_))) ?_
  refine TW.take rfl (Yl.assign rfl) rfl ?_
  refine TW.nil ?_
  refine AW.done (by kernel_rfl) ?_
  refine NW.then_ ?_
  refine CW.cut (fun st : Int × DevS => [(5, .int .i64 st.1), (0, .pointer (some ⟨q, 0, none⟩))]) (fun st => [src, [cr q 94 [.pointer (some ⟨p, 0, none⟩), .int .i64 serial, .bool false]], devC p bn bw bl n st.2]) (fun st => setS n s serial ns = st) ?cut10_1 ?cut10_2
  case cut10_1 =>
    refine CW.seq ?_
    refine CW.region ?_
    refine LW.move rfl rfl ?_
    refine LW.eql _ rfl rfl rfl rfl ?_
    refine LW.nil ?_
    refine NW.then_ ?_
    refine CW.cond rfl (fun hc37 => ?_) (fun hc37 => ?_)
    · replace hc37 := beq_iff_eq.1 hc37
      try dsimp only at hc37
      replace hyes := hyes hc37
      have hs1 := hs.write ((serial + 1).tmod 2) (slotB (serial + 1) ns)
      generalize s.write n ((serial + 1).tmod 2) (slotB (serial + 1) ns) = d1 at hyes hs1 ⊢
      refine CW.region ?_
      refine LW.move rfl rfl ?_
      refine LW.nilPtr rfl rfl ?_
      refine LW.fieldAddr _ rfl (fun _ => FactsSlot2.fa94_0 _ _ _) rfl ?_
      refine LW.load rfl (by repeat (first | exact Take.head _ _ | apply Take.tail)) rfl FactsSlot2.one27 rfl ?_
      refine LW.call (dev_Flush W B p bn bw bl n d1 hs1) Tryd.func53 rfl FactsSlot2.fname53 ⟨rfl, trivial⟩ (by repeat (first | exact Take.head _ _ | apply Take.tail)) rfl ?_
      rintro _ _ ⟨rfl, rfl⟩
      refine LW.assign rfl rfl ?_
      refine LW.nil ?_
      refine NW.meet ((d1.flushE, d1.flush n)) ?j1 ?e1 ?h1
      case j1 => exact hyes
      case e1 => repeat (first | exact Env.Le.nil _ | refine Env.Le.cons rfl ?_)
      case h1 => repeat (first | exact Sub.heap_nil _ | exact Sub.refl _ | refine Sub.heap_cons (Take.none _) ?_ | refine Sub.heap_cons (by repeat (first | exact Take.head _ _ | apply Take.tail)) ?_)
    · replace hc37 := beq_eq_false_iff_ne.1 hc37
      try dsimp only at hc37
      replace hno := hno hc37
      refine CW.skip ?_
      refine NW.meet ((s.err n ((serial + 1).tmod 2) 64, s.write n ((serial + 1).tmod 2) (slotB (serial + 1) ns))) ?j2 ?e2 ?h2
      case j2 => exact hno
      case e2 => repeat (first | exact Env.Le.nil _ | refine Env.Le.cons rfl ?_)
      case h2 => repeat (first | exact Sub.heap_nil _ | exact Sub.refl _ | refine Sub.heap_cons (Take.none _) ?_ | refine Sub.heap_cons (by repeat (first | exact Take.head _ _ | apply Take.tail)) ?_)
  case cut10_2 =>
    rintro ⟨e, d2⟩ hS; rw [hS]
    try dsimp only
    refine CW.seq ?_
    refine CW.seq ?_
    refine CW.region ?_
    refine LW.move rfl rfl ?_
    refine LW.neq _ rfl rfl rfl rfl ?_
    refine LW.nil ?_
    refine NW.then_ ?_
    refine CW.cond rfl (fun hc44 => ?_) (fun hc44 => ?_)
    · replace hc44 := bne_iff_ne.1 hc44
      try dsimp only at hc44
      refine CW.seq ?_
      refine CW.region ?_
      refine LW.move rfl rfl ?_
      refine LW.nilPtr rfl rfl ?_
      refine LW.fieldAddr _ rfl (fun _ => FactsSlot2.fa94_2 _ _ _) rfl ?_
      refine LW.store rfl rfl (by repeat (first | exact Take.head _ _ | apply Take.tail)) (by first | decide | exact Nat.lt_of_sub_pos (by rfl) | (simp; done) | simp [devHead]) FactsSlot2.sz4 (rfl) ?_
      refine LW.nil ?_
      refine NW.then_ ?_
      refine CW.seq ?_
      refine CW.region ?_
      refine LW.move rfl rfl ?_
      refine LW.assign rfl rfl ?_
      refine LW.nil ?_
      refine NW.then_ ?_
      refine CW.ret ?_
      refine NW.then_ret ?_
      refine NW.ret1 rfl rfl ⟨_, ⟨rfl, rfl⟩, ?_⟩
      (have h9 : ([slC q p (if e = 0 then serial + 1 else serial) (decide (e ≠ 0))] : List Row) = [cr q 94 [.pointer (some ⟨p, 0, none⟩), .int .i64 serial, .bool true]] := by rw [if_neg hc44, decide_eq_true hc44]; rfl); rw [h9]; exact Sub.app (by repeat (first | exact Take.head _ _ | apply Take.tail)) (Sub.take (by repeat (first | exact Take.head _ _ | apply Take.tail)) (Sub.one (by repeat (first | exact Take.head _ _ | apply Take.tail))))
    · replace hc44 := bne_eq_false_iff_eq.1 hc44
      try dsimp only at hc44
      refine CW.skip ?_
      refine NW.then_ ?_
      refine CW.seq ?_
      refine CW.region ?_
      refine LW.move rfl rfl ?_
      refine LW.nilPtr rfl rfl ?_
      refine LW.fieldAddr _ rfl (fun _ => FactsSlot2.fa94_1 _ _ _) rfl ?_
      refine LW.load rfl (by repeat (first | exact Take.head _ _ | apply Take.tail)) rfl FactsSlot2.one2 rfl ?_
      refine LW.add64 rfl rfl (by omega) (by omega) rfl ?_
      refine LW.nilPtr rfl rfl ?_
      refine LW.fieldAddr _ rfl (fun _ => FactsSlot2.fa94_1 _ _ _) rfl ?_
      refine LW.store rfl rfl (by repeat (first | exact Take.head _ _ | apply Take.tail)) (by first | decide | exact Nat.lt_of_sub_pos (by rfl) | (simp; done) | simp [devHead]) FactsSlot2.sz2 (rfl) ?_
      refine LW.nil ?_
      refine NW.then_ ?_
      refine CW.seq ?_
      refine CW.region ?_
      refine LW.assign rfl rfl ?_
      refine LW.nil ?_
      refine NW.then_ ?_
      refine CW.ret ?_
      refine NW.ret1 rfl rfl ⟨_, ⟨by rw [hc44], rfl⟩, ?_⟩
      (have h9 : ([slC q p (if e = 0 then serial + 1 else serial) (decide (e ≠ 0))] : List Row) = [cr q 94 [.pointer (some ⟨p, 0, none⟩), .int .i64 (serial + 1), .bool false]] := by rw [if_pos hc44, decide_eq_false (fun h => h hc44)]; rfl); rw [h9]; exact Sub.app (by repeat (first | exact Take.head _ _ | apply Take.tail)) (Sub.take (by repeat (first | exact Take.head _ _ | apply Take.tail)) (Sub.one (by repeat (first | exact Take.head _ _ | apply Take.tail))))

theorem slot_Set_bad (q p : Nat) (serial : Int) (A : Option Addr) (l cp : Nat) (h4 : l ≤ 4) :
    Spec Tryd.prog W B 35 [.pointer (some ⟨q, 0, none⟩), .slice A l cp] [slC q p serial true] (fun v post => v = .int .i64 9 ∧ post = [slC q p serial true]) := by
  refine Spec.enter ([[cr q 94 [.pointer (some ⟨p, 0, none⟩), .int .i64 serial, .bool true]]]) Tryd.func35 rfl Tryd.ntmps35 rfl (by first | rfl | simp) (fun w0 => ?_)
  refine CW.seq ?_
  refine CW.region ?_
  refine LW.assign rfl rfl ?_
  refine LW.nil ?_
  refine NW.then_ ?_
  refine CW.seq ?_
  refine CW.block ?_
  refine CW.seq ?_
  refine CW.region ?_
  refine LW.move rfl rfl ?_
  refine LW.ptrNil _ rfl Tryd.underlying44 rfl rfl ?_
  refine LW.assign rfl rfl ?_
  refine LW.nil ?_
  refine NW.then_ ?_
  refine CW.cond_false rfl ?_
  refine CW.seq ?_
  refine CW.region ?_
  refine LW.move rfl rfl ?_
  refine LW.lenSlice rfl Tryd.underlying47 rfl ?_
  refine LW.gtr false rfl rfl (decide_eq_false (by omega)) rfl ?_
  refine LW.assign rfl rfl ?_
  refine LW.nil ?_
  refine NW.then_ ?_
  refine CW.cond_false rfl ?_
  refine CW.seq ?_
  refine CW.region ?_
  refine LW.move rfl rfl ?_
  refine LW.nilPtr rfl rfl ?_
  refine LW.fieldAddr _ rfl (fun _ => FactsSlot2.fa94_2 _ _ _) rfl ?_
  refine LW.load rfl (by repeat (first | exact Take.head _ _ | apply Take.tail)) rfl FactsSlot2.one4 rfl ?_
  refine LW.assign rfl rfl ?_
  refine LW.nil ?_
  refine NW.then_ ?_
  refine CW.cond_true rfl ?_
  refine CW.seq ?_
  refine CW.region ?_
  refine LW.assign rfl rfl ?_
  refine LW.nil ?_
  refine NW.then_ ?_
  refine CW.ret ?_
  refine NW.block_ret ?_
  refine NW.then_ret ?_
  refine NW.ret1 rfl rfl ⟨_, ⟨rfl, rfl⟩, ?_⟩
  exact Sub.one (by repeat (first | exact Take.head _ _ | apply Take.tail))
theorem slot_Set_form (q : Nat) (A : Option Addr) (l cp : Nat) (h4 : 4 < l) :
    Spec Tryd.prog W B 35 [.pointer (some ⟨q, 0, none⟩), .slice A l cp] [] (fun v post => v = .int .i64 1 ∧ post = []) := by
  refine Spec.enter ([]) Tryd.func35 rfl Tryd.ntmps35 rfl (by first | rfl | simp) (fun w0 => ?_)
  refine CW.seq ?_
  refine CW.region ?_
  refine LW.assign rfl rfl ?_
  refine LW.nil ?_
  refine NW.then_ ?_
  refine CW.seq ?_
  refine CW.block ?_
  refine CW.seq ?_
  refine CW.region ?_
  refine LW.move rfl rfl ?_
  refine LW.ptrNil _ rfl Tryd.underlying44 rfl rfl ?_
  refine LW.assign rfl rfl ?_
  refine LW.nil ?_
  refine NW.then_ ?_
  refine CW.cond_false rfl ?_
  refine CW.seq ?_
  refine CW.region ?_
  refine LW.move rfl rfl ?_
  refine LW.lenSlice rfl Tryd.underlying47 rfl ?_
  refine LW.gtr true rfl rfl (decide_eq_true (by omega)) rfl ?_
  refine LW.assign rfl rfl ?_
  refine LW.nil ?_
  refine NW.then_ ?_
  refine CW.cond_true rfl ?_
  refine CW.seq ?_
  refine CW.region ?_
  refine LW.assign rfl rfl ?_
  refine LW.nil ?_
  refine NW.then_ ?_
  refine CW.ret ?_
  refine NW.block_ret ?_
  refine NW.then_ret ?_
  refine NW.ret1 rfl rfl ⟨_, ⟨rfl, rfl⟩, ?_⟩
  exact Sub.nil _

theorem slot_Make (p bn bw bl n : Nat) (s : DevS) (hs : s.Ok n) (h0 : 0 ≤ (newestS s.N).1) (h1 : (newestS s.N).1 ≤ 4611686018427387904) (ns : List Int) (hns : ∀ n ∈ ns, I64 n) (h4 : ns.length ≤ 4) (src : List Row) (A : Option Addr) (cp : Nat) (hsrc : Src W B src A (ns.map i64v)) :
    Spec Tryd.prog W B 32 [.pointer (some ⟨p, 0, none⟩), .slice A ns.length cp] (src ++ devC p bn bw bl n s)
      (fun v post => ((setS n s (newestS s.N).1 ns).1 = 0 ∧ ∃ q, v = .tuple #[.pointer (some ⟨q, 0, none⟩), .int .i64 0] ∧ post = src ++ ([slC q p ((newestS s.N).1 + 1) false] ++ devC p bn bw bl n (setS n s (newestS s.N).1 ns).2)) ∨
        ((setS n s (newestS s.N).1 ns).1 ≠ 0 ∧ v = .tuple #[.pointer none, .int .i64 (setS n s (newestS s.N).1 ns).1] ∧ post = src ++ devC p bn bw bl n (setS n s (newestS s.N).1 ns).2)) := by
  have hnw := slot_newest W B p bn bw bl n s hs
  generalize newestS s.N = x at hnw h0 h1 ⊢
  have hset := fun q => slot_Set W B q p bn bw bl n s hs x.1 h0 h1 ns hns h4 src A cp hsrc
  generalize setS n s x.1 ns = y at hset ⊢
  refine Spec.enter ([src, devC p bn bw bl n s]) Tryd.func32 rfl Tryd.ntmps32 rfl (by first | rfl | simp) (fun w0 => ?_)
  refine CW.seq ?_
  refine CW.region ?_
  refine LW.assign rfl rfl ?_
  refine LW.assign rfl rfl ?_
  refine LW.nil ?_
  refine NW.then_ ?_
  refine CW.seq ?_
  refine CW.block ?_
  refine CW.seq ?_
  refine CW.region ?_
  refine LW.move rfl rfl ?_
  refine LW.lenSlice rfl Tryd.underlying47 rfl ?_
  refine LW.gtr false rfl rfl (decide_eq_false (by omega)) rfl ?_
  refine LW.assign rfl rfl ?_
  refine LW.nil ?_
  refine NW.then_ ?_
  refine CW.cond_false rfl ?_
  refine CW.seq ?_
  refine CW.region ?_
  refine LW.move rfl rfl ?_
  refine LW.ptrNil _ rfl Tryd.underlying27 rfl rfl ?_
  refine LW.assign rfl rfl ?_
  refine LW.nil ?_
  refine NW.then_ ?_
  refine CW.cond_false rfl ?_
  refine CW.skip ?_
  refine NW.block ?_
  refine NW.then_ ?_
  refine CW.seq ?_
  refine CW.region ?_
  refine LW.move rfl rfl ?_
  refine LW.build (vs := [_]) (#[.pointer (some ⟨p, 0, none⟩), .int .i64 0, .bool false]) ⟨rfl, trivial⟩ (by kernel_rfl) rfl ?_
  refine LW.box rfl rfl ?_
  intro bb17
  refine LW.assign rfl rfl ?_
  refine LW.nil ?_
  refine NW.then_ ?_
  refine CW.seq ?_
  refine CW.region ?_
  refine LW.move rfl rfl ?_
  refine LW.move rfl rfl ?_
  refine LW.call (hnw) Tryd.func50 rfl FactsSlot2.fname50 ⟨rfl, trivial⟩ (by repeat (first | exact Take.head _ _ | apply Take.tail)) rfl ?_
  rintro _ _ ⟨v2, ch, rfl, ho, rfl⟩; refine LW.split2 ?_
  refine LW.move rfl rfl ?_
  refine LW.extract rfl rfl rfl ?_
  refine LW.extract rfl rfl rfl ?_
  refine LW.nilPtr rfl rfl ?_
  refine LW.fieldAddr _ rfl (fun _ => FactsSlot2.fa94_1 _ _ _) rfl ?_
  refine LW.store rfl rfl (by repeat (first | exact Take.head _ _ | apply Take.tail)) (by simp [Value.cells]) FactsSlot2.sz2 (rfl) ?_
  refine LW.nil ?_
  refine NW.then_ ?_
  refine CW.seq ?_
  refine CW.seq ?_
  refine CW.region ?_
  refine LW.move rfl rfl ?_
  refine LW.move rfl rfl ?_
  refine LW.call (hset bb17) Tryd.func35 rfl FactsSlot2.fname35 ⟨rfl, rfl, trivial⟩ (Take.both (by repeat (first | exact Take.head _ _ | apply Take.tail)) (Take.both (by repeat (first | exact Take.head _ _ | apply Take.tail)) (by repeat (first | exact Take.head _ _ | apply Take.tail)))) rfl ?_
  rintro _ _ ⟨rfl, rfl⟩; refine LW.split2 (LW.split2p ?_)
  refine LW.assign rfl rfl ?_
  refine LW.nil ?_
  refine NW.then_ ?_
  refine CW.seq ?_
  refine CW.region ?_
  refine LW.move rfl rfl ?_
  refine LW.neq _ rfl rfl rfl rfl ?_
  refine LW.nil ?_
  refine NW.then_ ?_
  refine CW.cond rfl (fun hc30 => ?_) (fun hc30 => ?_)
  · replace hc30 := bne_iff_ne.1 hc30
    try dsimp only at hc30
    refine CW.seq ?_
    refine CW.region ?_
    refine LW.move rfl rfl ?_
    refine LW.assign rfl rfl ?_
    refine LW.assign rfl rfl ?_
    refine LW.nil ?_
    refine NW.then_ ?_
    refine CW.ret ?_
    refine NW.then_ret ?_
    refine NW.ret2 rfl rfl rfl ⟨_, .inr ⟨hc30, rfl, rfl⟩, ?_⟩
    exact Sub.app (by repeat (first | exact Take.head _ _ | apply Take.tail)) (Sub.one (by repeat (first | exact Take.head _ _ | apply Take.tail)))
  · replace hc30 := bne_eq_false_iff_eq.1 hc30
    try dsimp only at hc30
    refine CW.skip ?_
    refine NW.then_ ?_
    refine CW.seq ?_
    refine CW.region ?_
    refine LW.move rfl rfl ?_
    refine LW.assign rfl rfl ?_
    refine LW.assign rfl rfl ?_
    refine LW.nil ?_
    refine NW.then_ ?_
    refine CW.ret ?_
    refine NW.ret2 rfl rfl rfl ⟨_, .inl ⟨hc30, bb17, rfl, rfl⟩, ?_⟩
    rw [if_pos hc30, decide_eq_false (fun h => h hc30)]; exact Sub.app (by repeat (first | exact Take.head _ _ | apply Take.tail)) (Sub.take (by repeat (first | exact Take.head _ _ | apply Take.tail)) (Sub.one (by repeat (first | exact Take.head _ _ | apply Take.tail))))

theorem slot_Open (p bn bw bl n : Nat) (s : DevS) (hs : s.Ok n) :
    Spec Tryd.prog W B 33 [.pointer (some ⟨p, 0, none⟩)] (devC p bn bw bl n s)
      (fun v post => ((newestS s.N).1 = 0 ∧ v = .tuple #[.pointer none, .slice none 0 0, .int .i64 10] ∧ post = devC p bn bw bl n s) ∨
        ((newestS s.N).1 ≠ 0 ∧ ∃ q v2 ch, v = .tuple #[.pointer (some ⟨q, 0, none⟩), v2, .int .i64 0] ∧ OwnS 2 1 v2 (newestS s.N).2.length ((newestS s.N).2.map i64v) ch ∧ post = ch ++ ([slC q p (newestS s.N).1 false] ++ devC p bn bw bl n s))) := by
  have hnw := slot_newest W B p bn bw bl n s hs
  generalize newestS s.N = x at hnw ⊢
  refine Spec.enter ([devC p bn bw bl n s]) Tryd.func33 rfl Tryd.ntmps33 rfl (by first | rfl | simp) (fun w0 => ?_)
  refine CW.seq ?_
  refine CW.region ?_
  refine LW.assign rfl rfl ?_
  refine LW.assign rfl rfl ?_
  refine LW.assign rfl rfl ?_
  refine LW.nil ?_
  refine NW.then_ ?_
  refine CW.seq ?_
  refine CW.seq ?_
  refine CW.region ?_
  refine LW.move rfl rfl ?_
  refine LW.ptrNil _ rfl Tryd.underlying27 rfl rfl ?_
  refine LW.nil ?_
  refine NW.then_ ?_
  refine CW.cond_false rfl ?_
  refine CW.skip ?_
  refine NW.then_ ?_
  refine CW.seq ?_
  refine CW.region ?_
  refine LW.move rfl rfl ?_
  refine LW.call (hnw) Tryd.func50 rfl FactsSlot2.fname50 ⟨rfl, trivial⟩ (by repeat (first | exact Take.head _ _ | apply Take.tail)) rfl ?_
  rintro _ _ ⟨v2, ch, rfl, ho, rfl⟩; refine LW.split2 ?_
  refine LW.move rfl rfl ?_
  refine LW.extract rfl rfl rfl ?_
  refine LW.extract rfl rfl rfl ?_
  refine LW.assign rfl rfl ?_
  refine LW.assign rfl rfl ?_
  refine LW.nil ?_
  refine NW.then_ ?_
  refine CW.seq ?_
  refine CW.seq ?_
  refine CW.region ?_
  refine LW.move rfl rfl ?_
  refine LW.eql _ rfl rfl rfl rfl ?_
  refine LW.nil ?_
  refine NW.then_ ?_
  refine CW.cond rfl (fun hc15 => ?_) (fun hc15 => ?_)
  · replace hc15 := beq_iff_eq.1 hc15
    try dsimp only at hc15
    refine CW.seq ?_
    refine CW.region ?_
    refine LW.assign rfl rfl ?_
    refine LW.assign rfl rfl ?_
    refine LW.assign rfl rfl ?_
    refine LW.nil ?_
    refine NW.then_ ?_
    refine CW.ret ?_
    refine NW.then_ret ?_
    refine NW.ret3 rfl rfl rfl rfl ⟨_, .inl ⟨hc15, rfl, rfl⟩, ?_⟩
    exact Sub.one (by repeat (first | exact Take.head _ _ | apply Take.tail))
  · replace hc15 := beq_eq_false_iff_ne.1 hc15
    try dsimp only at hc15
    refine CW.skip ?_
    refine NW.then_ ?_
    refine CW.seq ?_
    refine CW.region ?_
    refine LW.move rfl rfl ?_
    refine LW.move rfl rfl ?_
    refine LW.build (vs := [_, _]) (#[.pointer (some ⟨p, 0, none⟩), .int .i64 x.1, .bool false]) ⟨rfl, rfl, trivial⟩ (by kernel_rfl) rfl ?_
    refine LW.box rfl rfl ?_
    intro bb19
    refine LW.move rfl rfl ?_
    refine LW.assign rfl rfl ?_
    refine LW.assign rfl rfl ?_
    refine LW.assign rfl rfl ?_
    refine LW.nil ?_
    refine NW.then_ ?_
    refine CW.ret ?_
    refine NW.ret3 rfl rfl rfl rfl ⟨_, .inr ⟨hc15, bb19, v2, ch, rfl, ho, rfl⟩, ?_⟩
    exact Sub.app (by repeat (first | exact Take.head _ _ | apply Take.tail)) (Sub.take (by repeat (first | exact Take.head _ _ | apply Take.tail)) (Sub.one (by repeat (first | exact Take.head _ _ | apply Take.tail))))
end
end Go.Proofs.YtpnhonhjheahhaaDoor
