/-
  SlotAfter, walked.
-/
import Derived.Test.YtpnhonhjheahhaaDoorHelp5
namespace Go.Proofs.YtpnhonhjheahhaaDoor
open Go.RowKit
namespace FactsLawSAfter
theorem fname21 : (Tryd.f21.name == "runtime.NumGoroutine") = false := by kernel_rfl
theorem fname23 : (Tryd.f23.name == "runtime.NumGoroutine") = false := by kernel_rfl
theorem fname29 : (Tryd.f29.name == "runtime.NumGoroutine") = false := by kernel_rfl
theorem fname32 : (Tryd.f32.name == "runtime.NumGoroutine") = false := by kernel_rfl
theorem fname33 : (Tryd.f33.name == "runtime.NumGoroutine") = false := by kernel_rfl
theorem fname35 : (Tryd.f35.name == "runtime.NumGoroutine") = false := by kernel_rfl
theorem fname38 : (Tryd.f38.name == "runtime.NumGoroutine") = false := by kernel_rfl
theorem mixed : Tryd.prog.follows .mixedOrders = true := by kernel_rfl
theorem szt2 : (Tryd.prog.info? 2).map (·.size) = some 1 := by kernel_rfl
end FactsLawSAfter
section
variable (W : World) (B : Nat)
set_option maxHeartbeats 4000000 in
theorem law_SlotAfter (h0 : 0 < B) (hg : W.cell? ⟨0, 0, none⟩ = some (rty 110)) (A : Option Addr) (cp : Nat) (a : List Int) (hac : a.length ≤ cp) (hA : Src W B [] A (a.map i64v)) (hIa : ∀ n ∈ a, I64 n) (A1 : Option Addr) (cp1 : Nat) (b : List Int) (hbc : b.length ≤ cp1) (hA1 : Src W B [] A1 (b.map i64v)) (hIb : ∀ n ∈ b, I64 n) (A2 : Option Addr) (cp2 : Nat) (c : List Int) (hcc : c.length ≤ cp2) (hA2 : Src W B [] A2 (c.map i64v)) (hIc : ∀ n ∈ c, I64 n) (A3 : Option Addr) (cp3 : Nat) (keep : List Bool) (hsrc : Src W B [] A3 (keep.map .bool)) :
    Spec Tryd.prog W B 7 [.slice A a.length cp, .slice A1 b.length cp1, .slice A2 c.length cp2, .slice A3 keep.length cp3] [] (fun v post => v = .bool true ∧ post = []) := by
  have hma := take_min' a 4
  have hmb := take_min' b 4
  have hmc := take_min' c 4
  have hsa := hA.sub 4
  have hsb := hA1.sub 4
  have hsc := hA2.sub 4
  rw [← List.map_take] at hsa hsb hsc
  have hla : (a.take 4).length ≤ a.length := by rw [List.length_take]; omega
  have hlb : (b.take 4).length ≤ b.length := by rw [List.length_take]; omega
  have hlc : (c.take 4).length ≤ c.length := by rw [List.length_take]; omega
  have hla4 : (a.take 4).length ≤ 4 := by rw [List.length_take]; omega
  have hlb4 : (b.take 4).length ≤ 4 := by rw [List.length_take]; omega
  have hlc4 : (c.take 4).length ≤ 4 := by rw [List.length_take]; omega
  have hIa' : ∀ n ∈ a.take 4, I64 n := fun n hn => hIa n (List.mem_of_mem_take hn)
  have hIb' : ∀ n ∈ b.take 4, I64 n := fun n hn => hIb n (List.mem_of_mem_take hn)
  have hIc' : ∀ n ∈ c.take 4, I64 n := fun n hn => hIc n (List.mem_of_mem_take hn)
  generalize a.take 4 = la at hma hsa hla hla4 hIa'
  generalize b.take 4 = lb at hmb hsb hlb hlb4 hIb'
  generalize c.take 4 = lc at hmc hsc hlc hlc4 hIc'
  have hr0 := Rest.zero (n := 64) (by decide) (by decide)
  have hs0 := zero_slot 64 (by decide)
  refine Spec.enter ([]) Tryd.func7 rfl Tryd.ntmps7 rfl (by first | rfl | simp) (fun w0 => ?_)
  refine CW.seq ?_
  refine CW.region ?_
  refine LW.assign rfl rfl ?_
  refine LW.nil ?_
  refine NW.then_ ?_
  refine CW.seq ?_
  refine CW.region ?_
  refine LW.call (law_begun4 W B h0 hg) Tryd.func21 rfl FactsLawSAfter.fname21 trivial (Take.none _) rfl ?_
  rintro _ _ ⟨rfl, rfl⟩
  refine LW.assign rfl rfl ?_
  refine LW.nil ?_
  refine NW.then_ ?_
  refine CW.seq ?_
  refine CW.seq ?_
  refine CW.region ?_
  refine LW.move rfl rfl ?_
  refine LW.not (false) rfl (rfl) rfl ?_
  refine LW.nil ?_
  refine NW.then_ ?_
  refine CW.cond_false rfl ?_
  refine CW.skip ?_
  refine NW.then_ ?_
  refine CW.seq ?_
  refine CW.drawH [] FactsLawSAfter.mixed ?_
  refine AW.takes [0, 1, 2, 3, 4, 5, 6, 7, 8, 9, 10, 11, 12, 13, 14, 15, 16, 17] 0 (by kernel_rfl) (by kernel_rfl) rfl (by repeat (first | exact PO.body | refine PO.then_ ?_ | refine PO.block ?_ | refine PO.noGoto ?_)) (fun _ s => Held.of s (by repeat (first | exact Sub.nil _ | refine Sub.cons1 (by repeat (first | exact Take.head _ _ | apply Take.tail)) ?_))) ?_
  refine TW.take rfl (Yl.move rfl) rfl ?_
  refine TW.take rfl (Yl.move rfl) rfl ?_
  refine TW.take rfl (Yl.lenSlice rfl Tryd.underlying47) rfl ?_
  refine TW.take rfl (Yl.min2 ((la.length : Int)) rfl rfl (hma)) rfl ?_
  refine TW.take rfl (Yl.cutTo (la.length) rfl rfl Tryd.underlying47 FactsLawSAfter.szt2 (hla) (hac)) rfl ?_
  refine TW.take rfl (Yl.move rfl) rfl ?_
  refine TW.take rfl (Yl.move rfl) rfl ?_
  refine TW.take rfl (Yl.lenSlice rfl Tryd.underlying47) rfl ?_
  refine TW.take rfl (Yl.min2 ((lb.length : Int)) rfl rfl (hmb)) rfl ?_
  refine TW.take rfl (Yl.cutTo (lb.length) rfl rfl Tryd.underlying47 FactsLawSAfter.szt2 (hlb) (hbc)) rfl ?_
  refine TW.take rfl (Yl.move rfl) rfl ?_
  refine TW.take rfl (Yl.move rfl) rfl ?_
  refine TW.take rfl (Yl.lenSlice rfl Tryd.underlying47) rfl ?_
  refine TW.take rfl (Yl.min2 ((lc.length : Int)) rfl rfl (hmc)) rfl ?_
  refine TW.take rfl (Yl.cutTo (lc.length) rfl rfl Tryd.underlying47 FactsLawSAfter.szt2 (hlc) (hcc)) rfl ?_
  refine TW.take rfl (Yl.assign rfl) rfl ?_
  refine TW.take rfl (Yl.assign rfl) rfl ?_
  refine TW.take rfl (Yl.assign rfl) rfl ?_
  refine TW.nil ?_
  refine AW.done (by kernel_rfl) ?_
  refine NW.then_ ?_
  refine CW.seq ?_
  refine CW.region ?_
  refine LW.call (dev_New W B 64 (by decide) (by decide)) Tryd.func23 rfl FactsLawSAfter.fname23 ⟨rfl, trivial⟩ (Take.none _) rfl ?_
  rintro _ _ ⟨p, bn, bw, bl, rfl, rfl⟩
  refine LW.assign rfl rfl ?_
  refine LW.nil ?_
  refine NW.then_ ?_
  refine CW.seq ?_
  refine CW.seq ?_
  generalize DevS.zero 64 = d0 at hr0 hs0 ⊢
  refine CW.region ?_
  refine LW.move rfl rfl ?_
  refine LW.move rfl rfl ?_
  refine LW.call (slot_Make_ok W B p bn bw bl 64 d0 hr0.ok hr0.up (hold_slot hr0.flat (by decide) hs0) (by decide) la hIa' hla4 [] A cp hsa) Tryd.func32 rfl FactsLawSAfter.fname32 ⟨rfl, rfl, trivial⟩ (Take.both (Take.none _) (by repeat (first | exact Take.head _ _ | apply Take.tail))) rfl ?_
  rintro _ _ ⟨q, d1, rfl, hr1, hs1, _, rfl⟩; refine LW.split2 (LW.split2p ?_)
  refine LW.move rfl rfl ?_
  refine LW.extract rfl rfl rfl ?_
  refine LW.extract rfl rfl rfl ?_
  refine LW.assign rfl rfl ?_
  refine LW.assign rfl rfl ?_
  refine LW.nil ?_
  refine NW.then_ ?_
  refine CW.seq ?_
  refine CW.region ?_
  refine LW.move rfl rfl ?_
  refine LW.neq false rfl rfl (bne_eq_false_iff_eq.2 (by omega)) rfl ?_
  refine LW.nil ?_
  refine NW.then_ ?_
  refine CW.cond_false rfl ?_
  refine CW.skip ?_
  refine NW.then_ ?_
  refine CW.seq ?_
  refine CW.region ?_
  refine LW.move rfl rfl ?_
  refine LW.move rfl rfl ?_
  refine LW.call (dev_Crash W B p bn bw bl 64 d1 hr1.ok [] A3 cp3 keep hsrc) Tryd.func29 rfl FactsLawSAfter.fname29 ⟨rfl, rfl, trivial⟩ (Take.both (Take.none _) (by repeat (first | exact Take.head _ _ | apply Take.tail))) rfl ?_
  rintro _ _ ⟨cp', cn, cw, cl, rfl, rfl⟩; refine LW.split2 (LW.split2p ?_)
  refine LW.assign rfl rfl ?_
  refine LW.nil ?_
  refine NW.then_ ?_
  refine CW.seq ?_
  have hrc := Rest.crash hr1.ok keep
  have hsc' := crash_slot hr1.ok hr1.flat hs1 keep
  generalize d1.crash 64 keep = dc at hrc hsc' ⊢
  refine CW.region ?_
  refine LW.move rfl rfl ?_
  refine LW.call (slot_Open_ok W B cp' cn cw cl 64 dc hrc.ok hsc' (by omega)) Tryd.func33 rfl FactsLawSAfter.fname33 ⟨rfl, trivial⟩ (by repeat (first | exact Take.head _ _ | apply Take.tail)) rfl ?_
  rintro _ _ ⟨q2, v2, ch2, rfl, ho2, rfl⟩; obtain ⟨A4, cp4, rfl, hA4, hc4⟩ := OwnS.val ho2; refine LW.split2 (LW.split2p ?_)
  refine LW.move rfl rfl ?_
  refine LW.extract rfl rfl rfl ?_
  refine LW.extract rfl rfl rfl ?_
  refine LW.extract rfl rfl rfl ?_
  refine LW.assign rfl rfl ?_
  refine LW.assign rfl rfl ?_
  refine LW.assign rfl rfl ?_
  refine LW.nil ?_
  refine NW.then_ ?_
  refine CW.seq ?_
  refine CW.seq ?_
  refine CW.region ?_
  refine LW.move rfl rfl ?_
  refine LW.neq false rfl rfl (bne_eq_false_iff_eq.2 (by omega)) rfl ?_
  refine LW.move rfl rfl ?_
  refine LW.on 55 rfl rfl ?_
  refine LW.move rfl rfl ?_
  refine LW.on 55 rfl rfl ?_
  refine LW.move rfl rfl ?_
  refine LW.on 55 rfl rfl ?_
  refine LW.call (law_ints_eq W B ch2 A4 A cp4 cp la.length la rfl ho2.src hsa.mono0 (by omega)) Tryd.func38 rfl FactsLawSAfter.fname38 ⟨rfl, rfl, trivial⟩ (by repeat (first | exact Take.head _ _ | apply Take.tail)) rfl ?_
  rintro _ _ ⟨rfl, rfl⟩
  refine LW.on 55 rfl rfl ?_
  refine LW.not _ rfl rfl rfl ?_
  refine LW.pickF rfl rfl rfl ?_
  refine LW.move rfl rfl ?_
  refine LW.on 61 rfl rfl ?_
  refine LW.move rfl rfl ?_
  refine LW.on 61 rfl rfl ?_
  refine LW.move rfl rfl ?_
  refine LW.on 61 rfl rfl ?_
  refine LW.call (slot_Set_ok W B q2 cp' cn cw cl 64 dc hrc.ok hrc.up (hold_slot hrc.flat (by decide) hsc') (by omega) lb hIb' hlb4 [] A1 cp1 hsb) Tryd.func35 rfl FactsLawSAfter.fname35 ⟨rfl, rfl, trivial⟩ (Take.both (Take.none _) (Take.both (by repeat (first | exact Take.head _ _ | apply Take.tail)) (by repeat (first | exact Take.head _ _ | apply Take.tail)))) rfl ?_
  rintro _ _ ⟨rfl, d2, hr2, hs2, _, rfl⟩; refine LW.split2 (LW.split2p ?_)
  refine LW.on 61 rfl rfl ?_
  refine LW.neq false rfl rfl (bne_eq_false_iff_eq.2 (by omega)) rfl ?_
  refine LW.pickF rfl rfl rfl ?_
  refine LW.nil ?_
  refine NW.then_ ?_
  refine CW.cond_false rfl ?_
  refine CW.skip ?_
  refine NW.then_ ?_
  refine CW.seq ?_
  refine CW.region ?_
  refine LW.move rfl rfl ?_
  refine LW.move rfl rfl ?_
  refine LW.call (dev_Crash W B cp' cn cw cl 64 d2 hr2.ok [] A3 cp3 keep hsrc) Tryd.func29 rfl FactsLawSAfter.fname29 ⟨rfl, rfl, trivial⟩ (Take.both (Take.none _) (by repeat (first | exact Take.head _ _ | apply Take.tail))) rfl ?_
  rintro _ _ ⟨ep, en, ew, el, rfl, rfl⟩; refine LW.split2 (LW.split2p ?_)
  refine LW.assign rfl rfl ?_
  refine LW.nil ?_
  refine NW.then_ ?_
  refine CW.seq ?_
  have hre := Rest.crash hr2.ok keep
  have hse := crash_slot hr2.ok hr2.flat hs2 keep
  generalize d2.crash 64 keep = de at hre hse ⊢
  refine CW.region ?_
  refine LW.move rfl rfl ?_
  refine LW.call (slot_Open_ok W B ep en ew el 64 de hre.ok hse (by omega)) Tryd.func33 rfl FactsLawSAfter.fname33 ⟨rfl, trivial⟩ (by repeat (first | exact Take.head _ _ | apply Take.tail)) rfl ?_
  rintro _ _ ⟨q5, v5, ch5, rfl, ho5, rfl⟩; obtain ⟨A5, cp5, rfl, hA5, hc5⟩ := OwnS.val ho5; refine LW.split2 (LW.split2p ?_)
  refine LW.move rfl rfl ?_
  refine LW.extract rfl rfl rfl ?_
  refine LW.extract rfl rfl rfl ?_
  refine LW.extract rfl rfl rfl ?_
  refine LW.assign rfl rfl ?_
  refine LW.assign rfl rfl ?_
  refine LW.assign rfl rfl ?_
  refine LW.nil ?_
  refine NW.then_ ?_
  refine CW.seq ?_
  refine CW.seq ?_
  refine CW.region ?_
  refine LW.move rfl rfl ?_
  refine LW.neq false rfl rfl (bne_eq_false_iff_eq.2 (by omega)) rfl ?_
  refine LW.move rfl rfl ?_
  refine LW.on 78 rfl rfl ?_
  refine LW.move rfl rfl ?_
  refine LW.on 78 rfl rfl ?_
  refine LW.move rfl rfl ?_
  refine LW.on 78 rfl rfl ?_
  refine LW.call (law_ints_eq W B ch5 A5 A1 cp5 cp1 lb.length lb rfl ho5.src hsb.mono0 (by omega)) Tryd.func38 rfl FactsLawSAfter.fname38 ⟨rfl, rfl, trivial⟩ (by repeat (first | exact Take.head _ _ | apply Take.tail)) rfl ?_
  rintro _ _ ⟨rfl, rfl⟩
  refine LW.on 78 rfl rfl ?_
  refine LW.not _ rfl rfl rfl ?_
  refine LW.pickF rfl rfl rfl ?_
  refine LW.move rfl rfl ?_
  refine LW.on 84 rfl rfl ?_
  refine LW.move rfl rfl ?_
  refine LW.on 84 rfl rfl ?_
  refine LW.move rfl rfl ?_
  refine LW.on 84 rfl rfl ?_
  refine LW.call (slot_Set_ok W B q5 ep en ew el 64 de hre.ok hre.up (hold_slot hre.flat (by decide) hse) (by omega) lc hIc' hlc4 [] A2 cp2 hsc) Tryd.func35 rfl FactsLawSAfter.fname35 ⟨rfl, rfl, trivial⟩ (Take.both (Take.none _) (Take.both (by repeat (first | exact Take.head _ _ | apply Take.tail)) (by repeat (first | exact Take.head _ _ | apply Take.tail)))) rfl ?_
  rintro _ _ ⟨rfl, d6, hr6, hs6, _, rfl⟩; refine LW.split2 (LW.split2p ?_)
  refine LW.on 84 rfl rfl ?_
  refine LW.neq false rfl rfl (bne_eq_false_iff_eq.2 (by omega)) rfl ?_
  refine LW.pickF rfl rfl rfl ?_
  refine LW.nil ?_
  refine NW.then_ ?_
  refine CW.cond_false rfl ?_
  refine CW.skip ?_
  refine NW.then_ ?_
  refine CW.seq ?_
  refine CW.region ?_
  refine LW.move rfl rfl ?_
  refine LW.call (dev_Crash W B ep en ew el 64 d6 hr6.ok [] none 0 [] Src.nil) Tryd.func29 rfl FactsLawSAfter.fname29 ⟨rfl, rfl, trivial⟩ (Take.both (Take.none _) (by repeat (first | exact Take.head _ _ | apply Take.tail))) rfl ?_
  rintro _ _ ⟨gp, gn, gw, gl, rfl, rfl⟩; refine LW.split2 (LW.split2p ?_)
  refine LW.call (slot_Open_ok W B gp gn gw gl 64 (d6.crash 64 []) (hr6.ok.crash []) (crash_slot hr6.ok hr6.flat hs6 []) (by omega)) Tryd.func33 rfl FactsLawSAfter.fname33 ⟨rfl, trivial⟩ (by repeat (first | exact Take.head _ _ | apply Take.tail)) rfl ?_
  rintro _ _ ⟨q7, v7, ch7, rfl, ho7, rfl⟩; obtain ⟨A7, cp7, rfl, hA7, hc7⟩ := OwnS.val ho7; refine LW.split2 (LW.split2p ?_)
  refine LW.move rfl rfl ?_
  refine LW.extract rfl rfl rfl ?_
  refine LW.extract rfl rfl rfl ?_
  refine LW.extract rfl rfl rfl ?_
  refine LW.assign rfl rfl ?_
  refine LW.assign rfl rfl ?_
  refine LW.nil ?_
  refine NW.then_ ?_
  refine CW.seq ?_
  refine CW.region ?_
  refine LW.move rfl rfl ?_
  refine LW.eql true rfl rfl (beq_iff_eq.2 (by omega)) rfl ?_
  refine LW.move rfl rfl ?_
  refine LW.on 99 rfl rfl ?_
  refine LW.move rfl rfl ?_
  refine LW.on 99 rfl rfl ?_
  refine LW.move rfl rfl ?_
  refine LW.on 99 rfl rfl ?_
  refine LW.call (law_ints_eq W B ch7 A7 A2 cp7 cp2 lc.length lc rfl ho7.src hsc.mono0 (by omega)) Tryd.func38 rfl FactsLawSAfter.fname38 ⟨rfl, rfl, trivial⟩ (by repeat (first | exact Take.head _ _ | apply Take.tail)) rfl ?_
  rintro _ _ ⟨rfl, rfl⟩
  refine LW.pickT rfl rfl rfl ?_
  refine LW.assign rfl rfl ?_
  refine LW.nil ?_
  refine NW.then_ ?_
  refine CW.ret ?_
  refine NW.ret1 rfl rfl ⟨_, ⟨rfl, rfl⟩, ?_⟩
  exact Sub.nil _
end
end Go.Proofs.YtpnhonhjheahhaaDoor
