/-
  SlotMake, walked.
-/
import Derived.Test.YtpnhonhjheahhaaDoorFuz4
namespace Go.Proofs.YtpnhonhjheahhaaDoor
open Go.RowKit
namespace FactsLawSMake
theorem fname21 : (Tryd.f21.name == "runtime.NumGoroutine") = false := by kernel_rfl
theorem fname23 : (Tryd.f23.name == "runtime.NumGoroutine") = false := by kernel_rfl
theorem fname29 : (Tryd.f29.name == "runtime.NumGoroutine") = false := by kernel_rfl
theorem fname32 : (Tryd.f32.name == "runtime.NumGoroutine") = false := by kernel_rfl
theorem fname33 : (Tryd.f33.name == "runtime.NumGoroutine") = false := by kernel_rfl
theorem fname35 : (Tryd.f35.name == "runtime.NumGoroutine") = false := by kernel_rfl
theorem fname38 : (Tryd.f38.name == "runtime.NumGoroutine") = false := by kernel_rfl
theorem fname41 : (Tryd.f41.name == "runtime.NumGoroutine") = false := by kernel_rfl
theorem info2 : (Tryd.prog.info? 2).map (fun i => (i.zero, i.size, i.bytes)) = some (some (.int .i64 0), 1, 8) := by kernel_rfl
theorem mixed : Tryd.prog.follows .mixedOrders = true := by kernel_rfl
theorem szt2 : (Tryd.prog.info? 2).map (·.size) = some 1 := by kernel_rfl
end FactsLawSMake
structure SMakeSt where
  i : Nat
  sr : Int
  a : List Int
  A : Option Addr
  cp : Nat
  ch : List Row
  d : DevS
section
variable (W : World) (B : Nat)
set_option maxHeartbeats 4000000 in
theorem law_SlotMake (h0 : 0 < B) (hg : W.cell? ⟨0, 0, none⟩ = some (rty 110)) (A : Option Addr) (cp : Nat) (a : List Int) (hac : a.length ≤ cp) (hA : Src W B [] A (a.map i64v)) (hIa : ∀ n ∈ a, I64 n) (A1 : Option Addr) (cp1 : Nat) (b : List Int) (hbc : b.length ≤ cp1) (hA1 : Src W B [] A1 (b.map i64v)) (hIb : ∀ n ∈ b, I64 n) (z1 z2 : Int) (A2 : Option Addr) (cp2 : Nat) (keep : List Bool) (hsrc : Src W B [] A2 (keep.map .bool)) :
    Spec Tryd.prog W B 13 [.slice A a.length cp, .slice A1 b.length cp1, .int .i64 z1, .int .i64 z2, .slice A2 keep.length cp2] [] (fun v post => v = .bool true ∧ post = []) := by
  have hma := take_min' a 4
  have hmb := take_min' b 4
  have hsa := hA.sub 4
  have hsb := hA1.sub 4
  rw [← List.map_take] at hsa hsb
  have hla : (a.take 4).length ≤ a.length := by rw [List.length_take]; omega
  have hlb : (b.take 4).length ≤ b.length := by rw [List.length_take]; omega
  have hla4 : (a.take 4).length ≤ 4 := by rw [List.length_take]; omega
  have hlb4 : (b.take 4).length ≤ 4 := by rw [List.length_take]; omega
  have hIa' : ∀ n ∈ a.take 4, I64 n := fun n hn => hIa n (List.mem_of_mem_take hn)
  have hIb' : ∀ n ∈ b.take 4, I64 n := fun n hn => hIb n (List.mem_of_mem_take hn)
  generalize a.take 4 = la at hma hsa hla hla4 hIa'
  generalize b.take 4 = lb at hmb hsb hlb hlb4 hIb'
  obtain ⟨k, hk, hk2, hx1, hx2⟩ := mod_pos z1 5 (by decide) (by decide)
  obtain ⟨m, hm, hm2, hy1, hy2⟩ := mod_pos z2 6 (by decide) (by decide)
  have hr0 := Rest.zero (n := 64) (by decide) (by decide)
  have hs0 := zero_slot 64 (by decide)
  refine Spec.enter ([]) Tryd.func13 rfl Tryd.ntmps13 rfl (by first | rfl | simp) (fun w0 => ?_)
  refine CW.seq ?_
  refine CW.region ?_
  refine LW.assign rfl rfl ?_
  refine LW.nil ?_
  refine NW.then_ ?_
  refine CW.seq ?_
  refine CW.region ?_
  refine LW.call (law_begun4 W B h0 hg) Tryd.func21 rfl FactsLawSMake.fname21 trivial (Take.none _) rfl ?_
  rintro _ _ ⟨rfl, rfl⟩
  refine LW.assign rfl rfl ?_
  refine LW.nil ?_
  refine NW.then_ ?_
  refine CW.seq ?_
  refine CW.seq ?_
  refine CW.region ?_
  refine LW.move rfl rfl ?_
  refine LW.not (false) rfl (rfl) rfl ?_
  refine LW.nil ?_
  refine NW.then_ ?_
  refine CW.cond_false rfl ?_
  refine CW.skip ?_
  refine NW.then_ ?_
  refine CW.seq ?_
  refine CW.drawH [] FactsLawSMake.mixed ?_
  refine AW.takes [0, 1, 2, 3, 4, 5, 6, 7, 8, 9, 10, 11] 0 (by kernel_rfl) (by kernel_rfl) rfl (by repeat (first | exact PO.body | refine PO.then_ ?_ | refine PO.block ?_ | refine PO.noGoto ?_)) (fun _ s => Held.of s (by repeat (first | exact Sub.nil _ | refine Sub.cons1 (by repeat (first | exact Take.head _ _ | apply Take.tail)) ?_))) ?_
  refine TW.take rfl (Yl.move rfl) rfl ?_
  refine TW.take rfl (Yl.move rfl) rfl ?_
  refine TW.take rfl (Yl.lenSlice rfl Tryd.underlying47) rfl ?_
  refine TW.take rfl (Yl.min2 ((la.length : Int)) rfl rfl (hma)) rfl ?_
  refine TW.take rfl (Yl.cutTo (la.length) rfl rfl Tryd.underlying47 FactsLawSMake.szt2 (hla) (hac)) rfl ?_
  refine TW.take rfl (Yl.move rfl) rfl ?_
  refine TW.take rfl (Yl.move rfl) rfl ?_
  refine TW.take rfl (Yl.lenSlice rfl Tryd.underlying47) rfl ?_
  refine TW.take rfl (Yl.min2 ((lb.length : Int)) rfl rfl (hmb)) rfl ?_
  refine TW.take rfl (Yl.cutTo (lb.length) rfl rfl Tryd.underlying47 FactsLawSMake.szt2 (hlb) (hbc)) rfl ?_
  refine TW.take rfl (Yl.assign rfl) rfl ?_
  refine TW.take rfl (Yl.assign rfl) rfl ?_
  refine TW.nil ?_
  refine AW.done (by kernel_rfl) ?_
  refine NW.then_ ?_
  refine CW.seq ?_
  refine CW.region ?_
  refine LW.call (dev_New W B 64 (by decide) (by decide)) Tryd.func23 rfl FactsLawSMake.fname23 ⟨rfl, trivial⟩ (Take.none _) rfl ?_
  rintro _ _ ⟨p, bn, bw, bl, rfl, rfl⟩
  refine LW.assign rfl rfl ?_
  refine LW.nil ?_
  refine NW.then_ ?_
  refine CW.seq ?_
  generalize DevS.zero 64 = d0 at hr0 hs0 ⊢
  refine CW.region ?_
  refine LW.move rfl rfl ?_
  refine LW.move rfl rfl ?_
  refine LW.call (slot_Make_ok W B p bn bw bl 64 d0 hr0.ok hr0.up (hold_slot hr0.flat (by decide) hs0) (by decide) la hIa' hla4 [] A cp hsa) Tryd.func32 rfl FactsLawSMake.fname32 ⟨rfl, rfl, trivial⟩ (Take.both (Take.none _) (by repeat (first | exact Take.head _ _ | apply Take.tail))) rfl ?_
  rintro _ _ ⟨q, d1, rfl, hr1, hs1, _, rfl⟩; refine LW.split2 (LW.split2p ?_)
  refine LW.move rfl rfl ?_
  refine LW.extract rfl rfl rfl ?_
  refine LW.extract rfl rfl rfl ?_
  refine LW.assign rfl rfl ?_
  refine LW.assign rfl rfl ?_
  refine LW.nil ?_
  refine NW.then_ ?_
  refine CW.seq ?_
  refine CW.seq ?_
  refine CW.region ?_
  refine LW.assign rfl rfl ?_
  refine LW.nil ?_
  refine NW.then_ ?_
  refine CW.block ?_
  refine CW.loop (fun st : SMakeSt => [(15, .int .i64 (st.i : Int)), (14, .int .i64 0), (13, .pointer (some ⟨q, 0, none⟩)), (12, .pointer (some ⟨p, 0, none⟩)), (0, .slice st.A st.a.length st.cp), (1, .slice A1 lb.length cp1), (2, .int .i64 z1), (3, .int .i64 z2), (4, .slice A2 keep.length cp2)]) (fun st => [st.ch, [slC q p st.sr false], devC p bn bw bl 64 st.d]) (fun st => st.i ≤ k ∧ st.sr = 1 + (st.i : Int) ∧ Rest 64 st.d ∧ SlotAt st.d.N st.sr st.a ∧ Src W B st.ch st.A (st.a.map i64v) ∧ st.a.length ≤ 4) (fun st => k - st.i) ⟨0, 0 + 1, la, A, cp, [], d1⟩ ?st8_j ?st8_e ?st8_h ?st8_r
  case st8_j => exact ⟨Nat.zero_le _, rfl, hr1, hs1, hsa, hla4⟩
  case st8_e => repeat (first | exact Env.Le.nil _ | refine Env.Le.cons rfl ?_)
  case st8_h => repeat (first | exact Sub.heap_nil _ | exact Sub.refl _ | refine Sub.heap_cons (Take.none _) ?_ | refine Sub.heap_cons (by repeat (first | exact Take.head _ _ | apply Take.tail)) ?_)
  case st8_r =>
    clear hr1 hs1; rintro ⟨i, sr, c, C, cq, ch, d⟩ ⟨hi, hsr, hr, hs, hC, hc4⟩; dsimp only at hi hsr hr hs hC hc4
    try dsimp only
    refine CW.seq ?_
    refine CW.seq ?_
    refine CW.region ?_
    refine LW.move rfl rfl ?_
    refine LW.move rfl rfl ?_
    refine LW.rem (z1.tmod 5) rfl rfl (by decide) (rfl) rfl ?_
    refine LW.add (z1.tmod 5 + 5) rfl rfl (by first | rfl | exact wr64 (by omega) (by omega) (by omega)) rfl ?_
    refine LW.rem ((k : Int)) rfl rfl (by decide) (hk) rfl ?_
    refine LW.lss (decide ((i : Int) < (k : Int))) rfl rfl (rfl) rfl ?_
    refine LW.nil ?_
    refine NW.then_ ?_
    refine CW.cond rfl (fun hc46 => ?_) (fun hc46 => ?_)
    · replace hc46 := of_decide_eq_true hc46
      try dsimp only at hc46
      have hik : i < k := by omega
      refine CW.skip ?_
      refine NW.then_ ?_
      refine CW.seq ?_
      refine CW.block ?_
      refine CW.seq ?_
      refine CW.region ?_
      refine LW.move rfl rfl ?_
      refine LW.buildSlice (vs := [_, _]) ⟨rfl, rfl, trivial⟩ rfl (by intro v hv; simp at hv; rcases hv with rfl | rfl <;> rfl) Tryd.underlying47 FactsLawSMake.info2 rfl (by decide) (by decide) rfl ?_
      intro bs50
      refine LW.assign rfl rfl ?_
      refine LW.nil ?_
      refine NW.then_ ?_
      refine CW.seq ?_
      refine CW.region ?_
      refine LW.move rfl rfl ?_
      refine LW.move rfl rfl ?_
      refine LW.call (slot_Set_ok W B q p bn bw bl 64 d hr.ok hr.up (hold_slot hr.flat (by decide) hs) (by omega) [(i : Int), 77] (by intro n hn; simp at hn; rcases hn with rfl | rfl <;> exact ⟨by omega, by omega⟩) (by simp) [cr bs50 2 [.int .i64 (i : Int), .int .i64 77]] (some ⟨bs50, 0, none⟩) 2 (Src.row (fun j v hj => by rw [Nat.zero_add]; exact hj))) Tryd.func35 rfl FactsLawSMake.fname35 ⟨rfl, rfl, trivial⟩ (Take.both (by repeat (first | exact Take.head _ _ | apply Take.tail)) (Take.both (by repeat (first | exact Take.head _ _ | apply Take.tail)) (by repeat (first | exact Take.head _ _ | apply Take.tail)))) rfl ?_
      rintro _ _ ⟨rfl, d2, hr2, hs2, _, rfl⟩; refine LW.split2 (LW.split2p ?_)
      refine LW.neq false rfl rfl (bne_eq_false_iff_eq.2 (by omega)) rfl ?_
      refine LW.nil ?_
      refine NW.then_ ?_
      refine CW.cond_false rfl ?_
      refine CW.skip ?_
      refine NW.block ?_
      refine NW.then_ ?_
      refine CW.region ?_
      refine LW.move rfl rfl ?_
      refine LW.add ((i + 1 : Int)) rfl rfl (by first | rfl | exact wr64 (by omega) (by omega) (by omega)) rfl ?_
      refine LW.assign rfl rfl ?_
      refine LW.nil ?_
      refine NW.meet (⟨i + 1, sr + 1, [(i : Int), 77], some ⟨bs50, 0, none⟩, 2, [cr bs50 2 [.int .i64 (i : Int), .int .i64 77]], d2⟩) ?j1 ?e1 ?h1
      case j1 => exact ⟨⟨by dsimp only; omega, by dsimp only; omega, hr2, hs2, Src.row (fun j v hj => by rw [Nat.zero_add]; exact hj), by simp⟩, by dsimp only; omega⟩
      case e1 => repeat (first | exact Env.Le.nil _ | refine Env.Le.cons rfl ?_)
      case h1 => repeat (first | exact Sub.heap_nil _ | exact Sub.refl _ | refine Sub.heap_cons (Take.none _) ?_ | refine Sub.heap_cons (by repeat (first | exact Take.head _ _ | apply Take.tail)) ?_)
    · replace hc46 := of_decide_eq_false hc46
      try dsimp only at hc46
      refine CW.exit ?_
      refine NW.then_exit ?_
      refine NW.then_exit ?_
      refine NW.block_exit ?_
      refine NW.then_ ?_
      refine CW.seq ?_
      refine CW.region ?_
      refine LW.move rfl rfl ?_
      refine LW.move rfl rfl ?_
      refine LW.rem (z2.tmod 6) rfl rfl (by decide) (rfl) rfl ?_
      refine LW.add (z2.tmod 6 + 6) rfl rfl (by first | rfl | exact wr64 (by omega) (by omega) (by omega)) rfl ?_
      refine LW.rem ((m : Int)) rfl rfl (by decide) (hm) rfl ?_
      refine LW.call (dev_Fuse W B p bn bw bl 64 d (m : Int)) Tryd.func41 rfl FactsLawSMake.fname41 ⟨rfl, rfl, trivial⟩ (by repeat (first | exact Take.head _ _ | apply Take.tail)) rfl ?_
      rintro _ _ ⟨rfl, rfl⟩
      refine LW.nil ?_
      refine NW.then_ ?_
      refine CW.seq ?_
      refine CW.region ?_
      refine LW.move rfl rfl ?_
      refine LW.move rfl rfl ?_
      refine LW.call (slot_Make_fz W B p bn bw bl 64 (d.blow (m : Int)) (ok_blow hr.ok m (by omega)) (hold_slot (flat_blow hr.flat _) (by decide) hs) (by omega) lb hIb' hlb4 [] A1 cp1 hsb) Tryd.func32 rfl FactsLawSMake.fname32 ⟨rfl, rfl, trivial⟩ (Take.both (Take.none _) (by repeat (first | exact Take.head _ _ | apply Take.tail))) rfl ?_
      rintro v3 post3 hR
      rcases hR with ⟨q2, d1, rfl, ho1, hf1, hs1, rfl⟩ | ⟨d1, rfl, ho1, hd1, hx1, rfl⟩
      · refine LW.split2 (LW.split2p ?_)
        refine LW.move rfl rfl ?_
        refine LW.extract rfl rfl rfl ?_
        refine LW.extract rfl rfl rfl ?_
        refine LW.assign rfl rfl ?_
        refine LW.assign rfl rfl ?_
        refine LW.nil ?_
        refine NW.then_ ?_
        refine CW.seq ?_
        refine CW.region ?_
        refine LW.move rfl rfl ?_
        refine LW.move rfl rfl ?_
        refine LW.call (dev_Crash W B p bn bw bl 64 d1 ho1 [] A2 cp2 keep hsrc) Tryd.func29 rfl FactsLawSMake.fname29 ⟨rfl, rfl, trivial⟩ (Take.both (Take.none _) (by repeat (first | exact Take.head _ _ | apply Take.tail))) rfl ?_
        rintro _ _ ⟨cp', cn, cw, cl, rfl, rfl⟩; refine LW.split2 (LW.split2p ?_)
        refine LW.call (slot_Open_ok W B cp' cn cw cl 64 (d1.crash 64 keep) (ho1.crash keep) (crash_slot ho1 hf1 hs1 keep) (by omega)) Tryd.func33 rfl FactsLawSMake.fname33 ⟨rfl, trivial⟩ (by repeat (first | exact Take.head _ _ | apply Take.tail)) rfl ?_
        rintro _ _ ⟨q5, v5, ch5, rfl, ho5, rfl⟩; obtain ⟨A5, cp5, rfl, _, _⟩ := OwnS.val ho5; refine LW.split2 (LW.split2p ?_)
        refine LW.move rfl rfl ?_
        refine LW.extract rfl rfl rfl ?_
        refine LW.extract rfl rfl rfl ?_
        refine LW.extract rfl rfl rfl ?_
        refine LW.assign rfl rfl ?_
        refine LW.assign rfl rfl ?_
        refine LW.assign rfl rfl ?_
        refine LW.nil ?_
        refine NW.then_ ?_
        refine CW.seq ?_
        refine CW.region ?_
        refine LW.move rfl rfl ?_
        refine LW.eql true rfl rfl (beq_iff_eq.2 (by omega)) rfl ?_
        refine LW.move rfl rfl ?_
        refine LW.on 77 rfl rfl ?_
        refine LW.move rfl rfl ?_
        refine LW.on 77 rfl rfl ?_
        refine LW.eql true rfl rfl (beq_iff_eq.2 (by omega)) rfl ?_
        refine LW.pickT rfl rfl rfl ?_
        refine LW.move rfl rfl ?_
        refine LW.on 81 rfl rfl ?_
        refine LW.move rfl rfl ?_
        refine LW.on 81 rfl rfl ?_
        refine LW.move rfl rfl ?_
        refine LW.on 81 rfl rfl ?_
        refine LW.call (law_ints_eq W B ch5 A5 A1 cp5 cp1 lb.length lb rfl ho5.src hsb.mono0 (by omega)) Tryd.func38 rfl FactsLawSMake.fname38 ⟨rfl, rfl, trivial⟩ (by repeat (first | exact Take.head _ _ | apply Take.tail)) rfl ?_
        rintro _ _ ⟨rfl, rfl⟩
        refine LW.on 81 rfl rfl ?_
        refine LW.move rfl rfl ?_
        refine LW.off 85 rfl rfl rfl rfl ?_
        refine LW.off 85 rfl rfl rfl rfl ?_
        refine LW.off 85 rfl rfl rfl rfl ?_
        refine LW.offU 88 rfl rfl rfl ?_
        refine LW.offU 88 rfl rfl rfl ?_
        refine LW.offU 88 rfl rfl rfl ?_
        refine LW.off 85 rfl rfl rfl rfl ?_
        refine LW.on 81 rfl rfl ?_
        refine LW.pickT rfl rfl rfl ?_
        refine LW.pickT rfl rfl rfl ?_
        refine LW.assign rfl rfl ?_
        refine LW.nil ?_
        refine NW.then_ ?_
        refine CW.ret ?_
        refine NW.ret1 rfl rfl ⟨_, ⟨rfl, rfl⟩, ?_⟩
        exact Sub.nil _
      · refine LW.split2 ?_
        refine LW.move rfl rfl ?_
        refine LW.extract rfl rfl rfl ?_
        refine LW.extract rfl rfl rfl ?_
        refine LW.assign rfl rfl ?_
        refine LW.assign rfl rfl ?_
        refine LW.nil ?_
        refine NW.then_ ?_
        refine CW.seq ?_
        refine CW.region ?_
        refine LW.move rfl rfl ?_
        refine LW.move rfl rfl ?_
        refine LW.call (dev_Crash W B p bn bw bl 64 d1 ho1 [] A2 cp2 keep hsrc) Tryd.func29 rfl FactsLawSMake.fname29 ⟨rfl, rfl, trivial⟩ (Take.both (Take.none _) (by repeat (first | exact Take.head _ _ | apply Take.tail))) rfl ?_
        rintro _ _ ⟨cp', cn, cw, cl, rfl, rfl⟩; refine LW.split2 (LW.split2p ?_)
        rcases hx1 _ (crash_mix ho1 keep) with hc1 | hc1
        · refine LW.call (slot_Open_ok W B cp' cn cw cl 64 (d1.crash 64 keep) (ho1.crash keep) hc1 (by omega)) Tryd.func33 rfl FactsLawSMake.fname33 ⟨rfl, trivial⟩ (by repeat (first | exact Take.head _ _ | apply Take.tail)) rfl ?_
          rintro _ _ ⟨q5, v5, ch5, rfl, ho5, rfl⟩; obtain ⟨A5, cp5, rfl, _, _⟩ := OwnS.val ho5; refine LW.split2 (LW.split2p ?_)
          refine LW.move rfl rfl ?_
          refine LW.extract rfl rfl rfl ?_
          refine LW.extract rfl rfl rfl ?_
          refine LW.extract rfl rfl rfl ?_
          refine LW.assign rfl rfl ?_
          refine LW.assign rfl rfl ?_
          refine LW.assign rfl rfl ?_
          refine LW.nil ?_
          refine NW.then_ ?_
          refine CW.seq ?_
          refine CW.region ?_
          refine LW.move rfl rfl ?_
          refine LW.eql true rfl rfl (beq_iff_eq.2 (by omega)) rfl ?_
          refine LW.move rfl rfl ?_
          refine LW.on 77 rfl rfl ?_
          refine LW.move rfl rfl ?_
          refine LW.on 77 rfl rfl ?_
          refine LW.eql true rfl rfl (beq_iff_eq.2 (by omega)) rfl ?_
          refine LW.pickT rfl rfl rfl ?_
          refine LW.move rfl rfl ?_
          refine LW.on 81 rfl rfl ?_
          refine LW.move rfl rfl ?_
          by_cases hab : c = lb
          · refine LW.on 81 rfl rfl ?_
            subst hab
            refine LW.move rfl rfl ?_
            refine LW.on 81 rfl rfl ?_
            refine LW.call (law_ints_eq W B ch5 A5 A1 cp5 cp1 c.length c rfl ho5.src hsb.mono0 (by omega)) Tryd.func38 rfl FactsLawSMake.fname38 ⟨rfl, rfl, trivial⟩ (by repeat (first | exact Take.head _ _ | apply Take.tail)) rfl ?_
            rintro _ _ ⟨rfl, rfl⟩
            refine LW.on 81 rfl rfl ?_
            refine LW.move rfl rfl ?_
            refine LW.off 85 rfl rfl rfl rfl ?_
            refine LW.off 85 rfl rfl rfl rfl ?_
            refine LW.off 85 rfl rfl rfl rfl ?_
            refine LW.offU 88 rfl rfl rfl ?_
            refine LW.offU 88 rfl rfl rfl ?_
            refine LW.offU 88 rfl rfl rfl ?_
            refine LW.off 85 rfl rfl rfl rfl ?_
            refine LW.on 81 rfl rfl ?_
            refine LW.pickT rfl rfl rfl ?_
            refine LW.pickT rfl rfl rfl ?_
            refine LW.assign rfl rfl ?_
            refine LW.nil ?_
            refine NW.then_ ?_
            refine CW.ret ?_
            refine NW.ret1 rfl rfl ⟨_, ⟨rfl, rfl⟩, ?_⟩
            exact Sub.nil _
          · refine LW.on 81 rfl rfl ?_
            refine LW.move rfl rfl ?_
            refine LW.on 81 rfl rfl ?_
            refine LW.call (law_ints_ne W B ch5 A5 A1 cp5 cp1 c lb ho5.src hsb.mono0 (by omega) (by omega) hab) Tryd.func38 rfl FactsLawSMake.fname38 ⟨rfl, rfl, trivial⟩ (by repeat (first | exact Take.head _ _ | apply Take.tail)) rfl ?_
            rintro _ ch6 ⟨rfl, rfl⟩
            refine LW.on 81 rfl rfl ?_
            refine LW.move rfl rfl ?_
            refine LW.on 85 rfl rfl ?_
            refine LW.move rfl rfl ?_
            refine LW.on 85 rfl rfl ?_
            refine LW.neq true rfl rfl (bne_iff_ne.2 (by omega)) rfl ?_
            refine LW.on 85 rfl rfl ?_
            refine LW.move rfl rfl ?_
            refine LW.on 88 rfl rfl ?_
            refine LW.move rfl rfl ?_
            refine LW.on 88 rfl rfl ?_
            refine LW.move rfl rfl ?_
            refine LW.on 88 rfl rfl ?_
            refine LW.call (law_ints_eq W B (ch6 ++ ch) A5 C cp5 cq c.length c rfl (Src.left W B ho5.src) (Src.right W B hC) (by omega)) Tryd.func38 rfl FactsLawSMake.fname38 ⟨rfl, rfl, trivial⟩ (Take.both (by repeat (first | exact Take.head _ _ | apply Take.tail)) (by repeat (first | exact Take.head _ _ | apply Take.tail))) rfl ?_
            rintro _ _ ⟨rfl, rfl⟩; refine LW.split2 ?_
            refine LW.on 85 rfl rfl ?_
            refine LW.pickT rfl rfl rfl ?_
            refine LW.on 81 rfl rfl ?_
            refine LW.pickF rfl rfl rfl ?_
            refine LW.pickT rfl rfl rfl ?_
            refine LW.assign rfl rfl ?_
            refine LW.nil ?_
            refine NW.then_ ?_
            refine CW.ret ?_
            refine NW.ret1 rfl rfl ⟨_, ⟨rfl, rfl⟩, ?_⟩
            exact Sub.nil _
        · refine LW.call (slot_Open_ok W B cp' cn cw cl 64 (d1.crash 64 keep) (ho1.crash keep) hc1 (by omega)) Tryd.func33 rfl FactsLawSMake.fname33 ⟨rfl, trivial⟩ (by repeat (first | exact Take.head _ _ | apply Take.tail)) rfl ?_
          rintro _ _ ⟨q5, v5, ch5, rfl, ho5, rfl⟩; obtain ⟨A5, cp5, rfl, _, _⟩ := OwnS.val ho5; refine LW.split2 (LW.split2p ?_)
          refine LW.move rfl rfl ?_
          refine LW.extract rfl rfl rfl ?_
          refine LW.extract rfl rfl rfl ?_
          refine LW.extract rfl rfl rfl ?_
          refine LW.assign rfl rfl ?_
          refine LW.assign rfl rfl ?_
          refine LW.assign rfl rfl ?_
          refine LW.nil ?_
          refine NW.then_ ?_
          refine CW.seq ?_
          refine CW.region ?_
          refine LW.move rfl rfl ?_
          refine LW.eql true rfl rfl (beq_iff_eq.2 (by omega)) rfl ?_
          refine LW.move rfl rfl ?_
          refine LW.on 77 rfl rfl ?_
          refine LW.move rfl rfl ?_
          refine LW.on 77 rfl rfl ?_
          refine LW.eql true rfl rfl (beq_iff_eq.2 (by omega)) rfl ?_
          refine LW.pickT rfl rfl rfl ?_
          refine LW.move rfl rfl ?_
          refine LW.on 81 rfl rfl ?_
          refine LW.move rfl rfl ?_
          refine LW.on 81 rfl rfl ?_
          refine LW.move rfl rfl ?_
          refine LW.on 81 rfl rfl ?_
          refine LW.call (law_ints_eq W B ch5 A5 A1 cp5 cp1 lb.length lb rfl ho5.src hsb.mono0 (by omega)) Tryd.func38 rfl FactsLawSMake.fname38 ⟨rfl, rfl, trivial⟩ (by repeat (first | exact Take.head _ _ | apply Take.tail)) rfl ?_
          rintro _ _ ⟨rfl, rfl⟩
          refine LW.on 81 rfl rfl ?_
          refine LW.move rfl rfl ?_
          refine LW.off 85 rfl rfl rfl rfl ?_
          refine LW.off 85 rfl rfl rfl rfl ?_
          refine LW.off 85 rfl rfl rfl rfl ?_
          refine LW.offU 88 rfl rfl rfl ?_
          refine LW.offU 88 rfl rfl rfl ?_
          refine LW.offU 88 rfl rfl rfl ?_
          refine LW.off 85 rfl rfl rfl rfl ?_
          refine LW.on 81 rfl rfl ?_
          refine LW.pickT rfl rfl rfl ?_
          refine LW.pickT rfl rfl rfl ?_
          refine LW.assign rfl rfl ?_
          refine LW.nil ?_
          refine NW.then_ ?_
          refine CW.ret ?_
          refine NW.ret1 rfl rfl ⟨_, ⟨rfl, rfl⟩, ?_⟩
          exact Sub.nil _
end
end Go.Proofs.YtpnhonhjheahhaaDoor
