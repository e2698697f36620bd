/-
  DevAll, walked.
-/
import Derived.Test.YtmgpldgldgdenaaDoorDevAllDef
import Derived.Test.YtmgpldgldgdenaaDoorLawBad
import Derived.Test.YtmgpldgldgdenaaDoorOld
namespace Go.Proofs.YtmgpldgldgdenaaDoor
open Go.RowKit
namespace FactsLawDevAll
theorem fa68_0 (b o : Nat) (w : World) : (Instr.fieldAt 68 (.pointer (some ⟨b, o, none⟩)) 0).run Tryd.prog w = .ok (.pointer (some ⟨b, o, none⟩)) w := by kernel_rfl
theorem fa68_1 (b o : Nat) (w : World) : (Instr.fieldAt 68 (.pointer (some ⟨b, o, none⟩)) 1).run Tryd.prog w = .ok (.pointer (some ⟨b, o + 1, none⟩)) w := by kernel_rfl
theorem fa68_2 (b o : Nat) (w : World) : (Instr.fieldAt 68 (.pointer (some ⟨b, o, none⟩)) 2).run Tryd.prog w = .ok (.pointer (some ⟨b, o + 2, none⟩)) w := by kernel_rfl
theorem fa68_3 (b o : Nat) (w : World) : (Instr.fieldAt 68 (.pointer (some ⟨b, o, none⟩)) 3).run Tryd.prog w = .ok (.pointer (some ⟨b, o + 3, none⟩)) w := by kernel_rfl
theorem fa71_3 (b o : Nat) (w : World) : (Instr.fieldAt 71 (.pointer (some ⟨b, o, none⟩)) 3).run Tryd.prog w = .ok (.pointer (some ⟨b, o + 3, none⟩)) w := by kernel_rfl
theorem fa71_4 (b o : Nat) (w : World) : (Instr.fieldAt 71 (.pointer (some ⟨b, o, none⟩)) 4).run Tryd.prog w = .ok (.pointer (some ⟨b, o + 4, none⟩)) w := by kernel_rfl
theorem fname16 : (Tryd.f16.name == "runtime.NumGoroutine") = false := by kernel_rfl
theorem fname17 : (Tryd.f17.name == "runtime.NumGoroutine") = false := by kernel_rfl
theorem fname18 : (Tryd.f18.name == "runtime.NumGoroutine") = false := by kernel_rfl
theorem fname19 : (Tryd.f19.name == "runtime.NumGoroutine") = false := by kernel_rfl
theorem fname21 : (Tryd.f21.name == "runtime.NumGoroutine") = false := by kernel_rfl
theorem fname23 : (Tryd.f23.name == "runtime.NumGoroutine") = false := by kernel_rfl
theorem fname36 : (Tryd.f36.name == "runtime.NumGoroutine") = false := by kernel_rfl
theorem fname37 : (Tryd.f37.name == "runtime.NumGoroutine") = false := by kernel_rfl
theorem fname38 : (Tryd.f38.name == "runtime.NumGoroutine") = false := by kernel_rfl
theorem fname39 : (Tryd.f39.name == "runtime.NumGoroutine") = false := by kernel_rfl
theorem fname40 : (Tryd.f40.name == "runtime.NumGoroutine") = false := by kernel_rfl
theorem fname41 : (Tryd.f41.name == "runtime.NumGoroutine") = false := by kernel_rfl
theorem fname42 : (Tryd.f42.name == "runtime.NumGoroutine") = false := by kernel_rfl
theorem fname43 : (Tryd.f43.name == "runtime.NumGoroutine") = false := by kernel_rfl
theorem fname44 : (Tryd.f44.name == "runtime.NumGoroutine") = false := by kernel_rfl
theorem info3 : (Tryd.prog.info? 3).map (fun i => (i.zero, i.size, i.bytes)) = some (some (.int .i64 0), 1, 8) := by kernel_rfl
theorem info5 : (Tryd.prog.info? 5).map (fun i => (i.zero, i.size, i.bytes)) = some (some (.int .u8 0), 1, 1) := by kernel_rfl
theorem ixs64 : (Tryd.prog.info? 68).map (·.size) = some 4 := by kernel_rfl
theorem mixed : Tryd.prog.follows .mixedOrders = true := by kernel_rfl
theorem one22 : oneB Tryd.prog 22 = true := by kernel_rfl
theorem one3 : oneB Tryd.prog 3 = true := by kernel_rfl
theorem one5 : oneB Tryd.prog 5 = true := by kernel_rfl
theorem sz3 : (Tryd.prog.info? 3).map (·.size) = some 1 := by kernel_rfl
theorem sz4 : (Tryd.prog.info? 4).map (·.size) = some 1 := by kernel_rfl
theorem szt68 : (Tryd.prog.info? 68).map (·.size) = some 4 := by kernel_rfl
theorem zero68 : (Tryd.prog.info? 68).bind (·.zero) = some (.agg #[.int .i64 0, .int .i64 0, .int .u8 0, .slice none 0 0]) := by kernel_rfl
end FactsLawDevAll
section
variable (W : World) (B : Nat)
set_option maxHeartbeats 4000000 in
theorem law_DevAll (h0 : 0 < B) (hg : W.cell? ⟨0, 0, none⟩ = some (rty 80)) (n0 : Int) (hn0 : I64 n0) (A : Option Addr) (cp : Nat) (os : List OpS) (hos : OpsAt W B A os) :
    Spec Tryd.prog W B 11 [.int .i64 n0, .slice A os.length cp] [] (fun v post => v = .bool true ∧ post = []) := by
  refine Spec.enter ([]) Tryd.func11 rfl Tryd.ntmps11 rfl (by first | rfl | simp) (fun w0 => ?_)
  refine CW.seq ?_
  refine CW.region ?_
  refine LW.assign rfl rfl ?_
  refine LW.nil ?_
  refine NW.then_ ?_
  refine CW.seq ?_
  refine CW.region ?_
  refine LW.call (law_begun W B h0 hg) Tryd.func16 rfl FactsLawDevAll.fname16 trivial (Take.none _) rfl ?_
  rintro _ _ ⟨rfl, rfl⟩
  refine LW.assign rfl rfl ?_
  refine LW.nil ?_
  refine NW.then_ ?_
  refine CW.seq ?_
  refine CW.seq ?_
  refine CW.region ?_
  refine LW.move rfl rfl ?_
  refine LW.not (false) rfl (rfl) rfl ?_
  refine LW.nil ?_
  refine NW.then_ ?_
  refine CW.cond_false rfl ?_
  refine CW.skip ?_
  refine NW.then_ ?_
  refine CW.seq ?_
  refine CW.region ?_
  by_cases hn : 64 ≤ n0 ∧ n0 ≤ 4096
  · refine LW.move rfl rfl ?_
    obtain ⟨n, rfl⟩ : ∃ n : Nat, n0 = (n : Int) := ⟨n0.toNat, by omega⟩
    have hn64 : 64 ≤ n := by omega
    have hn4k : n ≤ 4096 := by omega
    refine LW.call (dev_New W B n hn64 hn4k) Tryd.func17 rfl FactsLawDevAll.fname17 ⟨rfl, trivial⟩ (Take.none _) rfl ?_
    rintro _ _ ⟨p, bn, bw, bl, rfl, rfl⟩
    refine LW.assign rfl rfl ?_
    refine LW.nil ?_
    refine NW.then_ ?_
    refine CW.seq ?_
    refine CW.seq ?_
    refine CW.region ?_
    refine LW.move rfl rfl ?_
    refine LW.lss false rfl rfl (decide_eq_false (by omega)) rfl ?_
    refine LW.move rfl rfl ?_
    refine LW.on 21 rfl rfl ?_
    refine LW.move rfl rfl ?_
    refine LW.on 21 rfl rfl ?_
    refine LW.gtr false rfl rfl (decide_eq_false (by omega)) rfl ?_
    refine LW.pickF rfl rfl rfl ?_
    refine LW.nil ?_
    refine NW.then_ ?_
    refine CW.cond_false rfl ?_
    refine CW.skip ?_
    refine NW.then_ ?_
    refine CW.seq ?_
    refine CW.region ?_
    refine LW.move rfl rfl ?_
    refine LW.call (rdev_New W B n hn64 hn4k) Tryd.func37 rfl FactsLawDevAll.fname37 ⟨rfl, trivial⟩ (Take.none _) rfl ?_
    rintro _ _ ⟨r, rfl, hr, rfl⟩
    refine LW.assign rfl rfl ?_
    refine LW.nil ?_
    refine NW.then_ ?_
    refine CW.seq ?_
    refine CW.seq ?_
    refine CW.region ?_
    refine LW.assign rfl rfl ?_
    refine LW.nil ?_
    refine NW.then_ ?_
    refine CW.block ?_
    refine CW.loop (fun st : Nat × (Nat × Nat × Nat × Nat) × DevS × DevS × RD => [(8, .int .i64 (st.1 : Int)), (7, .pointer (some ⟨st.2.2.2.2.q, 0, none⟩)), (6, .pointer (some ⟨st.2.1.1, 0, none⟩)), (1, .slice A os.length cp), (0, .int .i64 (n : Int))]) (fun st => [devC st.2.1.1 st.2.1.2.1 st.2.1.2.2.1 st.2.1.2.2.2 n st.2.2.1, st.2.2.2.2.rows n st.2.2.2.1]) (fun st => st.1 ≤ 40 ∧ st.2.2.1.Ok n ∧ st.2.2.2.2.Ok W B n st.2.2.2.1 ∧ Same st.2.2.1 st.2.2.2.1) (fun st => 40 - st.1) (0, (p, bn, bw, bl), DevS.zero n, DevS.zero n, r) ?st9_j ?st9_e ?st9_h ?st9_r
    case st9_j => exact ⟨Nat.zero_le _, DevS.Ok.zero hn64 hn4k, hr, Same.refl _⟩
    case st9_e => repeat (first | exact Env.Le.nil _ | refine Env.Le.cons rfl ?_)
    case st9_h => repeat (first | exact Sub.heap_nil _ | exact Sub.refl _ | refine Sub.heap_cons (by repeat (first | exact Take.head _ _ | apply Take.tail)) ?_)
    case st9_r =>
      rintro ⟨i, ⟨p, bn, bw, bl⟩, s, t, r⟩ ⟨hi, hs, hr, hst⟩; dsimp only at hi hs hr hst
      try dsimp only
      refine CW.seq ?_
      refine CW.seq ?_
      refine CW.region ?_
      refine LW.move rfl rfl ?_
      refine LW.move rfl rfl ?_
      refine LW.lenSlice rfl Tryd.underlying64 rfl ?_
      by_cases hil : i < os.length
      · refine LW.lss true rfl rfl (decide_eq_true (by omega)) rfl ?_
        refine LW.move rfl rfl ?_
        refine LW.on 33 rfl rfl ?_
        refine LW.move rfl rfl ?_
        refine LW.on 33 rfl rfl ?_
        refine LW.lss _ rfl rfl rfl rfl ?_
        refine LW.pickT rfl rfl rfl ?_
        refine LW.nil ?_
        refine NW.then_ ?_
        refine CW.cond rfl (fun hc36 => ?_) (fun hc36 => ?_)
        · replace hc36 := of_decide_eq_true hc36
          try dsimp only at hc36
          have hi40 : i < 40 := by omega
          obtain ⟨a, rfl, hab, hoa⟩ : ∃ a, A = some a ∧ a.block < B ∧ ∀ j o, os[j]? = some o → (∀ q v, (opV o)[q]? = some v → W.cell? ((a.add (j * 4)).add q) = some v) ∧ Src W B [] o.A (o.keep.map .bool) ∧ I64 o.i := by
            rcases hos with h | h
            · rw [h] at hil; simp at hil
            · exact h
          obtain ⟨hcell, hkeep, hoI⟩ := hoa i os[i] (List.getElem?_eq_getElem hil)
          generalize os[i] = o at hcell hkeep hoI
          obtain ⟨kind, oi, ox, kA, kcp, keep⟩ := o
          dsimp only at hkeep hoI
          refine CW.skip ?_
          refine NW.then_ ?_
          refine CW.seq ?_
          refine CW.block ?_
          refine CW.seq ?_
          refine CW.region ?_
          refine LW.move rfl rfl ?_
          refine LW.move rfl rfl ?_
          refine LW.indexAt rfl rfl Tryd.underlying64 FactsLawDevAll.ixs64 (by omega) (by omega) rfl ?_
          refine LW.loadAggOld (opV ⟨kind, oi, ox, kA, kcp, keep⟩) rfl (by rw [block_of_add]; exact hab) (by rw [Int.toNat_natCast]; exact hcell) Tryd.underlying68 rfl (by rw [FactsLawDevAll.szt68]; rfl) rfl ?_
          refine LW.alloc FactsLawDevAll.zero68 rfl ?_
          intro ba9
          refine LW.storeAgg (opV ⟨kind, oi, ox, kA, kcp, keep⟩) rfl rfl (by repeat (first | exact Take.head _ _ | apply Take.tail)) (by rw [FactsLawDevAll.szt68]; exact congrArg some (Eq.symm (rfl))) (by exact Nat.le_refl 4) (opV_one _) (rfl) ?_
          refine LW.nil ?_
          refine NW.then_ ?_
          refine CW.seq ?_
          refine CW.region ?_
          refine LW.assign rfl rfl ?_
          refine LW.assign rfl rfl ?_
          refine LW.nil ?_
          refine NW.then_ ?_
          refine CW.cut (fun st : Int × (Nat × Nat × Nat × Nat) × DevS × DevS × RD => [(11, .int .i64 st.1), (10, .int .i64 st.1), (9, .pointer (some ⟨ba9, 0, none⟩)), (8, .int .i64 (i : Int)), (7, .pointer (some ⟨st.2.2.2.2.q, 0, none⟩)), (6, .pointer (some ⟨st.2.1.1, 0, none⟩)), (1, .slice (some a) os.length cp), (0, .int .i64 (n : Int))]) (fun st => [[cr ba9 68 (opV ⟨kind, oi, ox, kA, kcp, keep⟩)], devC st.2.1.1 st.2.1.2.1 st.2.1.2.2.1 st.2.1.2.2.2 n st.2.2.1, st.2.2.2.2.rows n st.2.2.2.1]) (fun st => st.2.2.1.Ok n ∧ st.2.2.2.2.Ok W B n st.2.2.2.1 ∧ Same st.2.2.1 st.2.2.2.1) ?cut27_1 ?cut27_2
          case cut27_1 =>
            refine CW.seq ?_
            refine CW.region ?_
            refine LW.fieldAddr _ rfl (fun _ => FactsLawDevAll.fa68_0 _ _ _) rfl ?_
            refine LW.load (v := .int .i64 kind) rfl (by repeat (first | exact Take.head _ _ | apply Take.tail)) (rfl) FactsLawDevAll.one3 rfl ?_
            refine LW.nil ?_
            refine NW.then_ ?_
            refine CW.block ?_
            refine CW.seq ?_
            refine CW.region ?_
            refine LW.eql _ rfl rfl rfl rfl ?_
            refine LW.assign rfl rfl ?_
            refine LW.nil ?_
            refine NW.then_ ?_
            refine CW.cond rfl (fun hc57 => ?_) (fun hc57 => ?_)
            · replace hc57 := beq_iff_eq.1 hc57
              try dsimp only at hc57
              refine CW.drawH [cr ba9 68 (opV ⟨kind, oi, ox, kA, kcp, keep⟩)] FactsLawDevAll.mixed ?_
              refine AW.takes [0, 1, 2, 3, 4, 7, 8, 9, 10, 11] 6 (by kernel_rfl) (by kernel_rfl) rfl (by repeat (first | exact PO.body | refine PO.then_ ?_ | refine PO.block ?_ | refine PO.noGoto ?_)) (fun _ s => Held.of s (by repeat (first | exact Sub.nil _ | refine Sub.cons1 (by repeat (first | exact Take.head _ _ | apply Take.tail)) ?_))) ?_
              refine TW.take rfl (Yl.move rfl) rfl ?_
              refine TW.take rfl (Yl.fieldAddr _ rfl (fun _ => FactsLawDevAll.fa68_1 _ _ _)) rfl ?_
              refine TW.take rfl (Yl.load (v := .int .i64 oi) rfl (by repeat (first | exact List.Mem.head _ | refine List.Mem.tail _ ?_)) (rfl) FactsLawDevAll.one3) rfl ?_
              refine TW.take rfl (Yl.fieldAddr _ rfl (fun _ => FactsLawDevAll.fa68_2 _ _ _)) rfl ?_
              refine TW.take rfl (Yl.load (v := u8v ox) rfl (by repeat (first | exact List.Mem.head _ | refine List.Mem.tail _ ?_)) (rfl) FactsLawDevAll.one5) rfl ?_
              refine TW.take rfl (Yl.move rfl) rfl ?_
              refine TW.take rfl (Yl.fieldAddr _ rfl (fun _ => FactsLawDevAll.fa68_1 _ _ _)) rfl ?_
              refine TW.take rfl (Yl.load (v := .int .i64 oi) rfl (by repeat (first | exact List.Mem.head _ | refine List.Mem.tail _ ?_)) (rfl) FactsLawDevAll.one3) rfl ?_
              refine TW.take rfl (Yl.fieldAddr _ rfl (fun _ => FactsLawDevAll.fa68_2 _ _ _)) rfl ?_
              refine TW.take rfl (Yl.load (v := u8v ox) rfl (by repeat (first | exact List.Mem.head _ | refine List.Mem.tail _ ?_)) (rfl) FactsLawDevAll.one5) rfl ?_
              refine TW.nil ?_
              refine AW.act 5 (by kernel_rfl) rfl ?_
              refine LW.call (law_Bytes W B ox) Tryd.func18 rfl FactsLawDevAll.fname18 ⟨rfl, trivial⟩ (Take.none _) rfl ?_
              rintro _ _ ⟨b1, rfl, rfl⟩
              refine LW.nil ?_
              refine AW.back (fun _ s => Held.of s (by repeat (first | exact Sub.nil _ | refine Sub.cons1 (by repeat (first | exact Take.head _ _ | apply Take.tail)) ?_))) ?_
              refine AW.act 6 (by kernel_rfl) rfl ?_
              refine LW.call (dev_WriteG W B p bn bw bl n s hs oi [cr b1 5 ((bytes ox).map u8v)] (some ⟨b1, 0, none⟩) 64 (bytes ox) (Src.row (fun j v hj => by rw [Nat.zero_add]; exact hj))) Tryd.func19 rfl FactsLawDevAll.fname19 ⟨rfl, rfl, rfl, trivial⟩ (Take.both (by repeat (first | exact Take.head _ _ | apply Take.tail)) (by repeat (first | exact Take.head _ _ | apply Take.tail))) rfl ?_
              rintro _ _ ⟨rfl, rfl⟩; refine LW.split2 ?_
              refine LW.nil ?_
              refine AW.back (fun _ s => Held.of s (by repeat (first | exact Sub.nil _ | refine Sub.cons1 (by repeat (first | exact Take.head _ _ | apply Take.tail)) ?_))) ?_
              refine AW.act 12 (by kernel_rfl) rfl ?_
              refine LW.call (law_Bytes W B ox) Tryd.func18 rfl FactsLawDevAll.fname18 ⟨rfl, trivial⟩ (Take.none _) rfl ?_
              rintro _ _ ⟨b2, rfl, rfl⟩
              refine LW.nil ?_
              refine AW.back (fun _ s => Held.of s (by repeat (first | exact Sub.nil _ | refine Sub.cons1 (by repeat (first | exact Take.head _ _ | apply Take.tail)) ?_))) ?_
              refine AW.act 13 (by kernel_rfl) rfl ?_
              refine LW.call (rdev_WriteG W B r n t hr oi [cr b2 5 ((bytes ox).map u8v)] (some ⟨b2, 0, none⟩) 64 (bytes ox) (Src.row (fun j v hj => by rw [Nat.zero_add]; exact hj))) Tryd.func38 rfl FactsLawDevAll.fname38 ⟨rfl, rfl, rfl, trivial⟩ (Take.both (by repeat (first | exact Take.head _ _ | apply Take.tail)) (by repeat (first | exact Take.head _ _ | apply Take.tail))) rfl ?_
              rintro _ _ ⟨rfl, r', hrq, hr', rfl⟩; rw [← hrq]; refine LW.split2 ?_
              refine LW.nil ?_
              refine AW.back (fun _ s => Held.of s (by repeat (first | exact Sub.nil _ | refine Sub.cons1 (by repeat (first | exact Take.head _ _ | apply Take.tail)) ?_))) ?_
              refine AW.takes [14, 15] 0 (by kernel_rfl) (by kernel_rfl) rfl (by repeat (first | exact PO.body | refine PO.then_ ?_ | refine PO.block ?_ | refine PO.noGoto ?_)) (fun _ s => Held.of s (by repeat (first | exact Sub.nil _ | refine Sub.cons1 (by repeat (first | exact Take.head _ _ | apply Take.tail)) ?_))) ?_
              refine TW.take rfl (Yl.assign rfl) rfl ?_
              refine TW.take rfl (Yl.assign rfl) rfl ?_
              refine TW.nil ?_
              refine AW.done (by kernel_rfl) ?_
              refine NW.block ?_
              refine NW.meet ((s.err n oi (bytes ox).length, (p, bn, bw, bl), s.write n oi (bytes ox), t.write n oi (bytes ox), r')) ?j1 ?e1 ?h1
              case j1 => exact ⟨hs.write _ _, hr', hst.write _ _ _⟩
              case e1 => rw [hst.err]; repeat (first | exact Env.Le.nil _ | refine Env.Le.cons rfl ?_)
              case h1 => repeat (first | exact Sub.heap_nil _ | exact Sub.refl _ | refine Sub.heap_cons (by repeat (first | exact Take.head _ _ | apply Take.tail)) ?_)
            · replace hc57 := beq_eq_false_iff_ne.1 hc57
              try dsimp only at hc57
              refine CW.seq ?_
              refine CW.region ?_
              refine LW.eql _ rfl rfl rfl rfl ?_
              refine LW.assign rfl rfl ?_
              refine LW.nil ?_
              refine NW.then_ ?_
              refine CW.cond rfl (fun hc73 => ?_) (fun hc73 => ?_)
              · replace hc73 := beq_iff_eq.1 hc73
                try dsimp only at hc73
                refine CW.region ?_
                refine LW.move rfl rfl ?_
                refine LW.call (dev_Flush W B p bn bw bl n s hs) Tryd.func36 rfl FactsLawDevAll.fname36 ⟨rfl, trivial⟩ (by repeat (first | exact Take.head _ _ | apply Take.tail)) rfl ?_
                rintro _ _ ⟨rfl, rfl⟩
                refine LW.move rfl rfl ?_
                refine LW.call (rdev_FlushG W B r n t hr) Tryd.func39 rfl FactsLawDevAll.fname39 ⟨rfl, trivial⟩ (by repeat (first | exact Take.head _ _ | apply Take.tail)) rfl ?_
                rintro _ _ ⟨rfl, r', hrq, hr', rfl⟩; rw [← hrq]
                refine LW.assign rfl rfl ?_
                refine LW.assign rfl rfl ?_
                refine LW.nil ?_
                refine NW.block ?_
                refine NW.meet ((s.flushE, (p, bn, bw, bl), s.flush n, t.flush n, r')) ?j2 ?e2 ?h2
                case j2 => exact ⟨hs.flush, hr', hst.flush n⟩
                case e2 => rw [hst.flushE]; repeat (first | exact Env.Le.nil _ | refine Env.Le.cons rfl ?_)
                case h2 => repeat (first | exact Sub.heap_nil _ | exact Sub.refl _ | refine Sub.heap_cons (by repeat (first | exact Take.head _ _ | apply Take.tail)) ?_)
              · replace hc73 := beq_eq_false_iff_ne.1 hc73
                try dsimp only at hc73
                refine CW.seq ?_
                refine CW.region ?_
                refine LW.eql _ rfl rfl rfl rfl ?_
                refine LW.assign rfl rfl ?_
                refine LW.nil ?_
                refine NW.then_ ?_
                refine CW.cond rfl (fun hc79 => ?_) (fun hc79 => ?_)
                · replace hc79 := beq_iff_eq.1 hc79
                  try dsimp only at hc79
                  refine CW.seq ?_
                  refine CW.region ?_
                  refine LW.fieldAddr _ rfl (fun _ => FactsLawDevAll.fa68_1 _ _ _) rfl ?_
                  refine LW.load (v := .int .i64 oi) rfl (by repeat (first | exact Take.head _ _ | apply Take.tail)) (rfl) FactsLawDevAll.one3 rfl ?_
                  refine LW.min2 ((if 50 < oi then 50 else oi)) rfl rfl (rfl) rfl ?_
                  refine LW.max2 (max (-5) (min oi 50)) rfl rfl (by split <;> split <;> omega) rfl ?_
                  have hk0 : -5 ≤ max (-5) (min oi 50) := by omega
                  have hk1 : max (-5) (min oi 50) ≤ 50 := by omega
                  generalize max (-5) (min oi 50) = k at hk0 hk1 ⊢
                  refine LW.assign rfl rfl ?_
                  refine LW.nil ?_
                  refine NW.then_ ?_
                  refine CW.seq ?_
                  refine CW.region ?_
                  refine LW.move rfl rfl ?_
                  refine LW.move rfl rfl ?_
                  refine LW.call (dev_Fuse W B p bn bw bl n s k) Tryd.func40 rfl FactsLawDevAll.fname40 ⟨rfl, rfl, trivial⟩ (by repeat (first | exact Take.head _ _ | apply Take.tail)) rfl ?_
                  rintro _ _ ⟨rfl, rfl⟩
                  refine LW.nil ?_
                  refine NW.then_ ?_
                  refine CW.seq ?_
                  refine CW.region ?_
                  refine LW.move rfl rfl ?_
                  refine LW.call (rdev_Down W B r n t hr) Tryd.func41 rfl FactsLawDevAll.fname41 ⟨rfl, trivial⟩ (by repeat (first | exact Take.head _ _ | apply Take.tail)) rfl ?_
                  rintro _ _ ⟨rfl, rfl⟩
                  refine LW.not (!t.down) rfl (rfl) rfl ?_
                  refine LW.nil ?_
                  refine NW.then_ ?_
                  refine CW.cond rfl (fun hc90 => ?_) (fun hc90 => ?_)
                  · have htd : t.down = false := by simpa using hc90
                    refine CW.heap (h' := [[cr r.q 71 (rdHead r n t)], r.chN, r.chS, [cr r.bl 4 (t.loose.map .bool)], r.ar, devC p bn bw bl n (s.blow k), [cr ba9 68 (opV ⟨kind, oi, ox, kA, kcp, keep⟩)]]) ?_ (Sub.of_perm (by simp [RD.rows]))
                    refine CW.region ?_
                    refine LW.move rfl rfl ?_
                    refine LW.move rfl rfl ?_
                    refine LW.move rfl rfl ?_
                    refine LW.nilPtr rfl rfl ?_
                    refine LW.fieldAddr _ rfl (fun _ => FactsLawDevAll.fa71_3 _ _ _) rfl ?_
                    refine LW.store rfl rfl (by repeat (first | exact Take.head _ _ | apply Take.tail)) (by simp [rdHead]) FactsLawDevAll.sz3 (rfl) ?_
                    refine LW.nilPtr rfl rfl ?_
                    refine LW.fieldAddr _ rfl (fun _ => FactsLawDevAll.fa71_4 _ _ _) rfl ?_
                    refine LW.store rfl rfl (by repeat (first | exact Take.head _ _ | apply Take.tail)) (by simp [rdHead]) FactsLawDevAll.sz4 (rfl) ?_
                    refine LW.nil ?_
                    refine NW.block ?_
                    refine NW.meet ((0, (p, bn, bw, bl), s.blow k, t.fuseR k, r)) ?j3 ?e3 ?h3
                    case j3 => exact ⟨hs.blow (by omega) (by omega), ⟨hr.ownN, hr.ownS, by unfold DevS.fuseR; split <;> exact hr.secN, by unfold DevS.fuseR; split <;> exact hr.secS, fuseR_ok hr.ok (by omega) (by omega), fuseR_dn hr.dn k⟩, hst.blow k⟩
                    case e3 => repeat (first | exact Env.Le.nil _ | refine Env.Le.cons rfl ?_)
                    case h3 => rw [show t.fuseR k = { t with fuse := k, fused := true, down := decide (k ≤ 0) } from by simp [DevS.fuseR, htd]]; exact Sub.heap_cons (by repeat (first | exact Take.head _ _ | apply Take.tail)) (Sub.heap_cons (by repeat (first | exact Take.head _ _ | apply Take.tail)) (Sub.heap_cons (Take.rd (by repeat (first | exact Take.head _ _ | apply Take.tail)) (by repeat (first | exact Take.head _ _ | apply Take.tail)) (by repeat (first | exact Take.head _ _ | apply Take.tail)) (by repeat (first | exact Take.head _ _ | apply Take.tail)) (by repeat (first | exact Take.head _ _ | apply Take.tail))) (Sub.heap_nil _)))
                  · have htd : t.down = true := by simpa using hc90
                    refine CW.skip ?_
                    refine NW.block ?_
                    refine NW.meet ((0, (p, bn, bw, bl), s.blow k, t.fuseR k, r)) ?j4 ?e4 ?h4
                    case j4 => exact ⟨hs.blow (by omega) (by omega), ⟨hr.ownN, hr.ownS, by unfold DevS.fuseR; split <;> exact hr.secN, by unfold DevS.fuseR; split <;> exact hr.secS, fuseR_ok hr.ok (by omega) (by omega), fuseR_dn hr.dn k⟩, hst.blow k⟩
                    case e4 => repeat (first | exact Env.Le.nil _ | refine Env.Le.cons rfl ?_)
                    case h4 => rw [show t.fuseR k = t from by simp [DevS.fuseR, htd]]; repeat (first | exact Sub.heap_nil _ | exact Sub.refl _ | refine Sub.heap_cons (by repeat (first | exact Take.head _ _ | apply Take.tail)) ?_)
                · replace hc79 := beq_eq_false_iff_ne.1 hc79
                  try dsimp only at hc79
                  refine CW.seq ?_
                  refine CW.region ?_
                  refine LW.eql _ rfl rfl rfl rfl ?_
                  refine LW.assign rfl rfl ?_
                  refine LW.nil ?_
                  refine NW.then_ ?_
                  refine CW.cond rfl (fun hc98 => ?_) (fun hc98 => ?_)
                  · replace hc98 := beq_iff_eq.1 hc98
                    try dsimp only at hc98
                    refine CW.drawH [cr ba9 68 (opV ⟨kind, oi, ox, kA, kcp, keep⟩)] FactsLawDevAll.mixed ?_
                    refine AW.takes [0, 1, 2, 4, 5, 6] 4 (by kernel_rfl) (by kernel_rfl) rfl (by repeat (first | exact PO.body | refine PO.then_ ?_ | refine PO.block ?_ | refine PO.noGoto ?_)) (fun _ s => Held.of s (by repeat (first | exact Sub.nil _ | refine Sub.cons1 (by repeat (first | exact Take.head _ _ | apply Take.tail)) ?_))) ?_
                    refine TW.take rfl (Yl.move rfl) rfl ?_
                    refine TW.take rfl (Yl.fieldAddr _ rfl (fun _ => FactsLawDevAll.fa68_3 _ _ _)) rfl ?_
                    refine TW.take rfl (Yl.load (v := .slice kA keep.length kcp) rfl (by repeat (first | exact List.Mem.head _ | refine List.Mem.tail _ ?_)) (rfl) FactsLawDevAll.one22) rfl ?_
                    refine TW.take rfl (Yl.move rfl) rfl ?_
                    refine TW.take rfl (Yl.fieldAddr _ rfl (fun _ => FactsLawDevAll.fa68_3 _ _ _)) rfl ?_
                    refine TW.take rfl (Yl.load (v := .slice kA keep.length kcp) rfl (by repeat (first | exact List.Mem.head _ | refine List.Mem.tail _ ?_)) (rfl) FactsLawDevAll.one22) rfl ?_
                    refine TW.nil ?_
                    refine AW.act 3 (by kernel_rfl) rfl ?_
                    refine LW.call (dev_Crash W B p bn bw bl n s hs [] kA kcp keep hkeep) Tryd.func21 rfl FactsLawDevAll.fname21 ⟨rfl, rfl, trivial⟩ (Take.both (Take.none _) (by repeat (first | exact Take.head _ _ | apply Take.tail))) rfl ?_
                    rintro _ _ ⟨dp, dn, dw, dl, rfl, rfl⟩; refine LW.split2 (LW.split2p ?_)
                    refine LW.nil ?_
                    refine AW.back (fun _ s => Held.of s (by repeat (first | exact Sub.nil _ | refine Sub.cons1 (by repeat (first | exact Take.head _ _ | apply Take.tail)) ?_))) ?_
                    refine AW.act 7 (by kernel_rfl) rfl ?_
                    refine LW.call (rdev_Crash W B r n t hr [] kA kcp keep hkeep) Tryd.func42 rfl FactsLawDevAll.fname42 ⟨rfl, rfl, trivial⟩ (Take.both (Take.none _) (by repeat (first | exact Take.head _ _ | apply Take.tail))) rfl ?_
                    rintro _ _ ⟨r', rfl, hr', rfl⟩; refine LW.split2 (LW.split2p ?_)
                    refine LW.nil ?_
                    refine AW.back (fun _ s => Held.of s (by repeat (first | exact Sub.nil _ | refine Sub.cons1 (by repeat (first | exact Take.head _ _ | apply Take.tail)) ?_))) ?_
                    refine AW.takes [8, 9] 0 (by kernel_rfl) (by kernel_rfl) rfl (by repeat (first | exact PO.body | refine PO.then_ ?_ | refine PO.block ?_ | refine PO.noGoto ?_)) (fun _ s => Held.of s (by repeat (first | exact Sub.nil _ | refine Sub.cons1 (by repeat (first | exact Take.head _ _ | apply Take.tail)) ?_))) ?_
                    refine TW.take rfl (Yl.assign rfl) rfl ?_
                    refine TW.take rfl (Yl.assign rfl) rfl ?_
                    refine TW.nil ?_
                    refine AW.done (by kernel_rfl) ?_
                    refine NW.block ?_
                    refine NW.meet ((0, (dp, dn, dw, dl), s.crash n keep, t.crash n keep, r')) ?j5 ?e5 ?h5
                    case j5 => exact ⟨hs.crash keep, hr', by rw [hst.crash]; exact Same.refl _⟩
                    case e5 => repeat (first | exact Env.Le.nil _ | refine Env.Le.cons rfl ?_)
                    case h5 => repeat (first | exact Sub.heap_nil _ | exact Sub.refl _ | refine Sub.heap_cons (by repeat (first | exact Take.head _ _ | apply Take.tail)) ?_)
                  · replace hc98 := beq_eq_false_iff_ne.1 hc98
                    try dsimp only at hc98
                    refine CW.seq ?_
                    refine CW.region ?_
                    refine LW.fieldAddr _ rfl (fun _ => FactsLawDevAll.fa68_1 _ _ _) rfl ?_
                    refine LW.load (v := .int .i64 oi) rfl (by repeat (first | exact Take.head _ _ | apply Take.tail)) (rfl) FactsLawDevAll.one3 rfl ?_
                    obtain ⟨m, hm, hm130, hm1, hm2⟩ := mod_pos oi 130 (by decide) (by decide)
                    refine LW.rem (oi.tmod 130) rfl rfl (by decide) (rfl) rfl ?_
                    refine LW.add64 rfl rfl (by omega) (by omega) rfl ?_
                    refine LW.rem ((m : Int)) rfl rfl (by decide) (hm) rfl ?_
                    refine LW.make (m) (m) ((List.replicate m (0 : UInt8)).map u8v) rfl rfl (by first | rfl | omega) (by first | rfl | omega) Tryd.underlying26 FactsLawDevAll.info5 (by omega) (by omega) (by omega) (zeros_row m) rfl ?_
                    intro bm50
                    refine LW.assign rfl rfl ?_
                    refine LW.nil ?_
                    refine NW.then_ ?_
                    refine CW.region ?_
                    refine LW.move rfl rfl ?_
                    refine LW.move rfl rfl ?_
                    have hlm : (List.replicate m (0 : UInt8)).length = m := by simp
                    have hW1 := dev_WriteG W B p bn bw bl n s hs 3 [cr bm50 5 ((List.replicate m (0 : UInt8)).map u8v)] (some ⟨bm50, 0, none⟩) m (List.replicate m (0 : UInt8)) (Src.row (fun j v hj => by rw [Nat.zero_add]; exact hj))
                    have hW2 := rdev_WriteG W B r n t hr 3 [cr bm50 5 ((List.replicate m (0 : UInt8)).map u8v)] (some ⟨bm50, 0, none⟩) m (List.replicate m (0 : UInt8)) (Src.row (fun j v hj => by rw [Nat.zero_add]; exact hj))
                    rw [hlm] at hW1 hW2
                    refine LW.call (hW1) Tryd.func19 rfl FactsLawDevAll.fname19 ⟨rfl, rfl, rfl, trivial⟩ (Take.both (by repeat (first | exact Take.head _ _ | apply Take.tail)) (by repeat (first | exact Take.head _ _ | apply Take.tail))) rfl ?_
                    rintro _ _ ⟨rfl, rfl⟩; refine LW.split2 ?_
                    refine LW.move rfl rfl ?_
                    refine LW.move rfl rfl ?_
                    refine LW.call (hW2) Tryd.func38 rfl FactsLawDevAll.fname38 ⟨rfl, rfl, rfl, trivial⟩ (Take.both (by repeat (first | exact Take.head _ _ | apply Take.tail)) (by repeat (first | exact Take.head _ _ | apply Take.tail))) rfl ?_
                    rintro _ _ ⟨rfl, r', hrq, hr', rfl⟩; rw [← hrq]; refine LW.split2 ?_
                    refine LW.assign rfl rfl ?_
                    refine LW.assign rfl rfl ?_
                    refine LW.nil ?_
                    refine NW.block ?_
                    refine NW.meet ((s.err n 3 m, (p, bn, bw, bl), s.write n 3 (List.replicate m 0), t.write n 3 (List.replicate m 0), r')) ?j6 ?e6 ?h6
                    case j6 => exact ⟨hs.write _ _, hr', hst.write _ _ _⟩
                    case e6 => rw [hst.err]; repeat (first | exact Env.Le.nil _ | refine Env.Le.cons rfl ?_)
                    case h6 => repeat (first | exact Sub.heap_nil _ | exact Sub.refl _ | refine Sub.heap_cons (by repeat (first | exact Take.head _ _ | apply Take.tail)) ?_)
          case cut27_2 =>
            rintro ⟨er, ⟨p, bn, bw, bl⟩, s, t, r⟩ ⟨hs, hr, hst⟩; dsimp only at hs hr hst
            try dsimp only
            refine CW.seq ?_
            refine CW.region ?_
            refine LW.move rfl rfl ?_
            refine LW.ptrNil _ rfl Tryd.underlying24 rfl rfl ?_
            refine LW.move rfl rfl ?_
            refine LW.on 110 rfl rfl ?_
            refine LW.move rfl rfl ?_
            refine LW.on 110 rfl rfl ?_
            refine LW.move rfl rfl ?_
            refine LW.on 110 rfl rfl ?_
            refine LW.neq false rfl rfl (bne_eq_false_iff_eq.2 rfl) rfl ?_
            refine LW.pickF rfl rfl rfl ?_
            refine LW.move rfl rfl ?_
            refine LW.on 115 rfl rfl ?_
            refine LW.move rfl rfl ?_
            refine LW.on 115 rfl rfl ?_
            refine LW.call (dev_Down W B p bn bw bl n s) Tryd.func23 rfl FactsLawDevAll.fname23 ⟨rfl, trivial⟩ (by repeat (first | exact Take.head _ _ | apply Take.tail)) rfl ?_
            rintro _ _ ⟨rfl, rfl⟩
            refine LW.on 115 rfl rfl ?_
            refine LW.move rfl rfl ?_
            refine LW.on 115 rfl rfl ?_
            refine LW.call (rdev_Down W B r n t hr) Tryd.func41 rfl FactsLawDevAll.fname41 ⟨rfl, trivial⟩ (by repeat (first | exact Take.head _ _ | apply Take.tail)) rfl ?_
            rintro _ _ ⟨rfl, rfl⟩
            refine LW.on 115 rfl rfl ?_
            refine LW.boolNeq (false) rfl rfl Tryd.underlying4 ((by rw [hst.down]; cases t.down <;> rfl)) rfl ?_
            refine LW.pickF rfl rfl rfl ?_
            refine LW.move rfl rfl ?_
            refine LW.on 122 rfl rfl ?_
            refine LW.move rfl rfl ?_
            refine LW.on 122 rfl rfl ?_
            refine LW.move rfl rfl ?_
            refine LW.on 122 rfl rfl ?_
            refine LW.fieldAddr _ rfl (fun _ => FactsLawDevAll.fa68_1 _ _ _) rfl ?_
            refine LW.on 122 rfl rfl ?_
            refine LW.load (v := .int .i64 oi) rfl (by repeat (first | exact Take.head _ _ | apply Take.tail)) (rfl) FactsLawDevAll.one3 rfl ?_
            refine LW.on 122 rfl rfl ?_
            refine LW.move rfl rfl ?_
            refine LW.on 122 rfl rfl ?_
            refine LW.sub64 rfl rfl (by omega) (by omega) rfl ?_
            refine LW.on 122 rfl rfl ?_
            refine LW.buildSlice (vs := [_, _, _, _]) ⟨rfl, rfl, rfl, rfl, trivial⟩ rfl (by intro v hv; simp at hv; rcases hv with rfl | rfl | rfl | rfl <;> rfl) Tryd.underlying33 FactsLawDevAll.info3 rfl (by decide) (by decide) rfl ?_
            intro bs129
            refine LW.on 122 rfl rfl ?_
            refine LW.call (law_sectors W B p bn bw bl n s t r hs hr hst [oi, 3, 0, (n : Int) - 1] (some ⟨bs129, 0, none⟩) 4 (by simp) [cr bs129 3 [.int .i64 oi, .int .i64 3, .int .i64 0, .int .i64 ((n : Int) - 1)]] (Src.row (fun j v hj => by rw [Nat.zero_add]; exact hj)) (fun h => by cases h)) Tryd.func43 rfl FactsLawDevAll.fname43 ⟨rfl, rfl, rfl, trivial⟩ (Take.both (by repeat (first | exact Take.head _ _ | apply Take.tail)) (Take.both (by repeat (first | exact Take.head _ _ | apply Take.tail)) (by repeat (first | exact Take.head _ _ | apply Take.tail)))) rfl ?_
            rintro _ _ ⟨rfl, rfl⟩; refine LW.split2 (LW.split2p ?_)
            refine LW.on 122 rfl rfl ?_
            refine LW.not (false) rfl (rfl) rfl ?_
            refine LW.pickF rfl rfl rfl ?_
            refine LW.nil ?_
            refine NW.then_ ?_
            refine CW.cond_false rfl ?_
            refine CW.skip ?_
            refine NW.block ?_
            refine NW.then_ ?_
            refine CW.region ?_
            refine LW.move rfl rfl ?_
            refine LW.add64 rfl rfl (by omega) (by omega) rfl ?_
            refine LW.assign rfl rfl ?_
            refine LW.nil ?_
            refine NW.meet ((i + 1, (p, bn, bw, bl), s, t, r)) ?j7 ?e7 ?h7
            case j7 => exact ⟨⟨by omega, hs, hr, hst⟩, by dsimp only; omega⟩
            case e7 => repeat (first | exact Env.Le.nil _ | refine Env.Le.cons rfl ?_)
            case h7 => repeat (first | exact Sub.heap_nil _ | exact Sub.refl _ | refine Sub.heap_cons (by repeat (first | exact Take.head _ _ | apply Take.tail)) ?_)
        · replace hc36 := of_decide_eq_false hc36
          try dsimp only at hc36
          refine CW.exit ?_
          refine NW.then_exit ?_
          refine NW.then_exit ?_
          refine NW.block_exit ?_
          refine NW.then_ ?_
          refine CW.seq ?_
          refine CW.region ?_
          refine LW.move rfl rfl ?_
          refine LW.call (dev_Sectors W B p bn bw bl n s) Tryd.func44 rfl FactsLawDevAll.fname44 ⟨rfl, trivial⟩ (by repeat (first | exact Take.head _ _ | apply Take.tail)) rfl ?_
          rintro _ _ ⟨rfl, rfl⟩
          refine LW.move rfl rfl ?_
          refine LW.eql (true) rfl rfl (beq_iff_eq.2 rfl) rfl ?_
          refine LW.assign rfl rfl ?_
          refine LW.nil ?_
          refine NW.then_ ?_
          refine CW.ret ?_
          refine NW.ret1 rfl rfl ⟨_, ⟨rfl, rfl⟩, ?_⟩
          exact Sub.nil _
      · refine LW.lss false rfl rfl (decide_eq_false (by omega)) rfl ?_
        refine LW.move rfl rfl ?_
        refine LW.off 33 rfl rfl rfl rfl ?_
        refine LW.off 33 rfl rfl rfl rfl ?_
        refine LW.pickF rfl rfl rfl ?_
        refine LW.nil ?_
        refine NW.then_ ?_
        refine CW.cond_false rfl ?_
        refine CW.exit ?_
        refine NW.then_exit ?_
        refine NW.then_exit ?_
        refine NW.block_exit ?_
        refine NW.then_ ?_
        refine CW.seq ?_
        refine CW.region ?_
        refine LW.move rfl rfl ?_
        refine LW.call (dev_Sectors W B p bn bw bl n s) Tryd.func44 rfl FactsLawDevAll.fname44 ⟨rfl, trivial⟩ (by repeat (first | exact Take.head _ _ | apply Take.tail)) rfl ?_
        rintro _ _ ⟨rfl, rfl⟩
        refine LW.move rfl rfl ?_
        refine LW.eql (true) rfl rfl (beq_iff_eq.2 rfl) rfl ?_
        refine LW.assign rfl rfl ?_
        refine LW.nil ?_
        refine NW.then_ ?_
        refine CW.ret ?_
        refine NW.ret1 rfl rfl ⟨_, ⟨rfl, rfl⟩, ?_⟩
        exact Sub.nil _
  · refine LW.move rfl rfl ?_
    refine LW.call (dev_NewNo' W B n0 (by omega)) Tryd.func17 rfl FactsLawDevAll.fname17 ⟨rfl, trivial⟩ (Take.none _) rfl ?_
    rintro _ _ ⟨rfl, rfl⟩
    refine LW.assign rfl rfl ?_
    refine LW.nil ?_
    refine NW.then_ ?_
    refine CW.seq ?_
    refine CW.seq ?_
    refine CW.region ?_
    refine LW.move rfl rfl ?_
    by_cases hn64 : n0 < 64
    · refine LW.lss true rfl rfl (decide_eq_true (by omega)) rfl ?_
      refine LW.move rfl rfl ?_
      refine LW.off 21 rfl rfl rfl rfl ?_
      refine LW.off 21 rfl rfl rfl rfl ?_
      refine LW.pickT rfl rfl rfl ?_
      refine LW.nil ?_
      refine NW.then_ ?_
      refine CW.cond_true rfl ?_
      refine CW.seq ?_
      refine CW.region ?_
      refine LW.move rfl rfl ?_
      refine LW.ptrNil _ rfl Tryd.underlying24 rfl rfl ?_
      refine LW.assign rfl rfl ?_
      refine LW.nil ?_
      refine NW.then_ ?_
      refine CW.ret ?_
      refine NW.then_ret ?_
      refine NW.ret1 rfl rfl ⟨_, ⟨rfl, rfl⟩, ?_⟩
      exact Sub.nil _
    · refine LW.lss false rfl rfl (decide_eq_false (by omega)) rfl ?_
      refine LW.move rfl rfl ?_
      refine LW.on 21 rfl rfl ?_
      refine LW.move rfl rfl ?_
      refine LW.on 21 rfl rfl ?_
      refine LW.gtr true rfl rfl (decide_eq_true (by omega)) rfl ?_
      refine LW.pickF rfl rfl rfl ?_
      refine LW.nil ?_
      refine NW.then_ ?_
      refine CW.cond_true rfl ?_
      refine CW.seq ?_
      refine CW.region ?_
      refine LW.move rfl rfl ?_
      refine LW.ptrNil _ rfl Tryd.underlying24 rfl rfl ?_
      refine LW.assign rfl rfl ?_
      refine LW.nil ?_
      refine NW.then_ ?_
      refine CW.ret ?_
      refine NW.then_ret ?_
      refine NW.ret1 rfl rfl ⟨_, ⟨rfl, rfl⟩, ?_⟩
      exact Sub.nil _
end
end Go.Proofs.YtmgpldgldgdenaaDoor
