/-
  SlotFirst, walked.
-/
import Derived.Test.YtpnhonhjheahhaaDoorFuz4
namespace Go.Proofs.YtpnhonhjheahhaaDoor
open Go.RowKit
namespace FactsLawSFirst
theorem fname21 : (Tryd.f21.name == "runtime.NumGoroutine") = false := by kernel_rfl
theorem fname23 : (Tryd.f23.name == "runtime.NumGoroutine") = false := by kernel_rfl
theorem fname29 : (Tryd.f29.name == "runtime.NumGoroutine") = false := by kernel_rfl
theorem fname32 : (Tryd.f32.name == "runtime.NumGoroutine") = false := by kernel_rfl
theorem fname33 : (Tryd.f33.name == "runtime.NumGoroutine") = false := by kernel_rfl
theorem fname38 : (Tryd.f38.name == "runtime.NumGoroutine") = false := by kernel_rfl
theorem fname41 : (Tryd.f41.name == "runtime.NumGoroutine") = false := by kernel_rfl
theorem szt2 : (Tryd.prog.info? 2).map (·.size) = some 1 := by kernel_rfl
end FactsLawSFirst
section
variable (W : World) (B : Nat)
set_option maxHeartbeats 4000000 in
theorem law_SlotFirst (h0 : 0 < B) (hg : W.cell? ⟨0, 0, none⟩ = some (rty 110)) (A : Option Addr) (cp : Nat) (a : List Int) (hac : a.length ≤ cp) (hA : Src W B [] A (a.map i64v)) (hIa : ∀ n ∈ a, I64 n) (z : Int) (A2 : Option Addr) (cp2 : Nat) (keep : List Bool) (hsrc : Src W B [] A2 (keep.map .bool)) :
    Spec Tryd.prog W B 14 [.slice A a.length cp, .int .i64 z, .slice A2 keep.length cp2] [] (fun v post => v = .bool true ∧ post = []) := by
  have hma := take_min' a 4
  have hsa := hA.sub 4
  rw [← List.map_take] at hsa
  have hla : (a.take 4).length ≤ a.length := by rw [List.length_take]; omega
  have hla4 : (a.take 4).length ≤ 4 := by rw [List.length_take]; omega
  have hIa' : ∀ n ∈ a.take 4, I64 n := fun n hn => hIa n (List.mem_of_mem_take hn)
  generalize a.take 4 = la at hma hsa hla hla4 hIa'
  obtain ⟨k, hk, hk2, hx1, hx2⟩ := mod_pos z 6 (by decide) (by decide)
  have hr0 := Rest.zero (n := 64) (by decide) (by decide)
  have hs0 := zero_slot 64 (by decide)
  refine Spec.enter ([]) Tryd.func14 rfl Tryd.ntmps14 rfl (by first | rfl | simp) (fun w0 => ?_)
  refine CW.seq ?_
  refine CW.region ?_
  refine LW.assign rfl rfl ?_
  refine LW.nil ?_
  refine NW.then_ ?_
  refine CW.seq ?_
  refine CW.region ?_
  refine LW.call (law_begun4 W B h0 hg) Tryd.func21 rfl FactsLawSFirst.fname21 trivial (Take.none _) rfl ?_
  rintro _ _ ⟨rfl, rfl⟩
  refine LW.assign rfl rfl ?_
  refine LW.nil ?_
  refine NW.then_ ?_
  refine CW.seq ?_
  refine CW.seq ?_
  refine CW.region ?_
  refine LW.move rfl rfl ?_
  refine LW.not (false) rfl (rfl) rfl ?_
  refine LW.nil ?_
  refine NW.then_ ?_
  refine CW.cond_false rfl ?_
  refine CW.skip ?_
  refine NW.then_ ?_
  refine CW.seq ?_
  refine CW.region ?_
  refine LW.move rfl rfl ?_
  refine LW.move rfl rfl ?_
  refine LW.lenSlice rfl Tryd.underlying47 rfl ?_
  refine LW.min2 ((la.length : Int)) rfl rfl (hma) rfl ?_
  refine LW.cutTo (la.length) rfl rfl Tryd.underlying47 FactsLawSFirst.szt2 (hla) (hac) rfl ?_
  refine LW.assign rfl rfl ?_
  refine LW.nil ?_
  refine NW.then_ ?_
  refine CW.seq ?_
  refine CW.region ?_
  refine LW.call (dev_New W B 64 (by decide) (by decide)) Tryd.func23 rfl FactsLawSFirst.fname23 ⟨rfl, trivial⟩ (Take.none _) rfl ?_
  rintro _ _ ⟨p, bn, bw, bl, rfl, rfl⟩
  refine LW.assign rfl rfl ?_
  refine LW.nil ?_
  refine NW.then_ ?_
  refine CW.seq ?_
  generalize DevS.zero 64 = d0 at hr0 hs0 ⊢
  refine CW.region ?_
  refine LW.move rfl rfl ?_
  refine LW.call (slot_Open_none W B p bn bw bl 64 d0 hr0.ok hs0) Tryd.func33 rfl FactsLawSFirst.fname33 ⟨rfl, trivial⟩ (by repeat (first | exact Take.head _ _ | apply Take.tail)) rfl ?_
  rintro _ _ ⟨rfl, rfl⟩
  refine LW.move rfl rfl ?_
  refine LW.extract rfl rfl rfl ?_
  refine LW.extract rfl rfl rfl ?_
  refine LW.extract rfl rfl rfl ?_
  refine LW.assign rfl rfl ?_
  refine LW.assign rfl rfl ?_
  refine LW.assign rfl rfl ?_
  refine LW.nil ?_
  refine NW.then_ ?_
  refine CW.seq ?_
  refine CW.region ?_
  refine LW.move rfl rfl ?_
  refine LW.move rfl rfl ?_
  refine LW.rem (z.tmod 6) rfl rfl (by decide) (rfl) rfl ?_
  refine LW.add (z.tmod 6 + 6) rfl rfl (by first | rfl | exact wr64 (by omega) (by omega) (by omega)) rfl ?_
  refine LW.rem ((k : Int)) rfl rfl (by decide) (hk) rfl ?_
  refine LW.call (dev_Fuse W B p bn bw bl 64 d0 (k : Int)) Tryd.func41 rfl FactsLawSFirst.fname41 ⟨rfl, rfl, trivial⟩ (by repeat (first | exact Take.head _ _ | apply Take.tail)) rfl ?_
  rintro _ _ ⟨rfl, rfl⟩
  refine LW.nil ?_
  refine NW.then_ ?_
  refine CW.seq ?_
  refine CW.region ?_
  refine LW.move rfl rfl ?_
  refine LW.move rfl rfl ?_
  refine LW.call (slot_Make_fz W B p bn bw bl 64 (d0.blow (k : Int)) (ok_blow hr0.ok k (by omega)) (hold_slot (flat_blow hr0.flat _) (by decide) hs0) (by decide) la hIa' hla4 [] A cp hsa) Tryd.func32 rfl FactsLawSFirst.fname32 ⟨rfl, rfl, trivial⟩ (Take.both (Take.none _) (by repeat (first | exact Take.head _ _ | apply Take.tail))) rfl ?_
  rintro v3 post3 hR
  rcases hR with ⟨q, d1, rfl, ho1, hf1, hs1, rfl⟩ | ⟨d1, rfl, ho1, hd1, hx1, rfl⟩
  · refine LW.split2 (LW.split2p ?_)
    refine LW.move rfl rfl ?_
    refine LW.extract rfl rfl rfl ?_
    refine LW.extract rfl rfl rfl ?_
    refine LW.assign rfl rfl ?_
    refine LW.assign rfl rfl ?_
    refine LW.nil ?_
    refine NW.then_ ?_
    refine CW.seq ?_
    refine CW.region ?_
    refine LW.move rfl rfl ?_
    refine LW.move rfl rfl ?_
    refine LW.call (dev_Crash W B p bn bw bl 64 d1 ho1 [] A2 cp2 keep hsrc) Tryd.func29 rfl FactsLawSFirst.fname29 ⟨rfl, rfl, trivial⟩ (Take.both (Take.none _) (by repeat (first | exact Take.head _ _ | apply Take.tail))) rfl ?_
    rintro _ _ ⟨cp', cn, cw, cl, rfl, rfl⟩; refine LW.split2 (LW.split2p ?_)
    refine LW.call (slot_Open_ok W B cp' cn cw cl 64 (d1.crash 64 keep) (ho1.crash keep) (crash_slot ho1 hf1 hs1 keep) (by omega)) Tryd.func33 rfl FactsLawSFirst.fname33 ⟨rfl, trivial⟩ (by repeat (first | exact Take.head _ _ | apply Take.tail)) rfl ?_
    rintro _ _ ⟨q5, v5, ch5, rfl, ho5, rfl⟩; obtain ⟨A5, cp5, rfl, _, _⟩ := OwnS.val ho5; refine LW.split2 (LW.split2p ?_)
    refine LW.move rfl rfl ?_
    refine LW.extract rfl rfl rfl ?_
    refine LW.extract rfl rfl rfl ?_
    refine LW.extract rfl rfl rfl ?_
    refine LW.assign rfl rfl ?_
    refine LW.assign rfl rfl ?_
    refine LW.assign rfl rfl ?_
    refine LW.nil ?_
    refine NW.then_ ?_
    refine CW.seq ?_
    refine CW.region ?_
    refine LW.move rfl rfl ?_
    refine LW.eql true rfl rfl (beq_iff_eq.2 (by omega)) rfl ?_
    refine LW.move rfl rfl ?_
    refine LW.on 54 rfl rfl ?_
    refine LW.move rfl rfl ?_
    refine LW.on 54 rfl rfl ?_
    refine LW.ptrNil _ rfl Tryd.underlying44 rfl rfl ?_
    refine LW.pickT rfl rfl rfl ?_
    refine LW.move rfl rfl ?_
    refine LW.on 58 rfl rfl ?_
    refine LW.move rfl rfl ?_
    refine LW.on 58 rfl rfl ?_
    refine LW.eql true rfl rfl (beq_iff_eq.2 (by omega)) rfl ?_
    refine LW.on 58 rfl rfl ?_
    refine LW.move rfl rfl ?_
    refine LW.on 61 rfl rfl ?_
    refine LW.move rfl rfl ?_
    refine LW.on 61 rfl rfl ?_
    refine LW.eql true rfl rfl (beq_iff_eq.2 (by omega)) rfl ?_
    refine LW.on 58 rfl rfl ?_
    refine LW.pickT rfl rfl rfl ?_
    refine LW.on 58 rfl rfl ?_
    refine LW.move rfl rfl ?_
    refine LW.on 65 rfl rfl ?_
    refine LW.move rfl rfl ?_
    refine LW.on 65 rfl rfl ?_
    refine LW.move rfl rfl ?_
    refine LW.on 65 rfl rfl ?_
    refine LW.call (law_ints_eq W B ch5 A5 A cp5 cp la.length la rfl ho5.src hsa.mono0 (by omega)) Tryd.func38 rfl FactsLawSFirst.fname38 ⟨rfl, rfl, trivial⟩ (by repeat (first | exact Take.head _ _ | apply Take.tail)) rfl ?_
    rintro _ _ ⟨rfl, rfl⟩
    refine LW.on 58 rfl rfl ?_
    refine LW.pickT rfl rfl rfl ?_
    refine LW.on 58 rfl rfl ?_
    refine LW.move rfl rfl ?_
    refine LW.off 70 rfl rfl rfl rfl ?_
    refine LW.off 70 rfl rfl rfl rfl ?_
    refine LW.off 70 rfl rfl rfl rfl ?_
    refine LW.offU 73 rfl rfl rfl ?_
    refine LW.offU 73 rfl rfl rfl ?_
    refine LW.offU 73 rfl rfl rfl ?_
    refine LW.offU 76 rfl rfl rfl ?_
    refine LW.offU 76 rfl rfl rfl ?_
    refine LW.offU 76 rfl rfl rfl ?_
    refine LW.offU 73 rfl rfl rfl ?_
    refine LW.offU 73 rfl rfl rfl ?_
    refine LW.offU 81 rfl rfl rfl ?_
    refine LW.offU 81 rfl rfl rfl ?_
    refine LW.offU 81 rfl rfl rfl ?_
    refine LW.offU 84 rfl rfl rfl ?_
    refine LW.offU 84 rfl rfl rfl ?_
    refine LW.offU 84 rfl rfl rfl ?_
    refine LW.offU 81 rfl rfl rfl ?_
    refine LW.offU 73 rfl rfl rfl ?_
    refine LW.off 70 rfl rfl rfl rfl ?_
    refine LW.on 58 rfl rfl ?_
    refine LW.pickT rfl rfl rfl ?_
    refine LW.pickT rfl rfl rfl ?_
    refine LW.assign rfl rfl ?_
    refine LW.nil ?_
    refine NW.then_ ?_
    refine CW.ret ?_
    refine NW.ret1 rfl rfl ⟨_, ⟨rfl, rfl⟩, ?_⟩
    exact Sub.nil _
  · refine LW.split2 ?_
    refine LW.move rfl rfl ?_
    refine LW.extract rfl rfl rfl ?_
    refine LW.extract rfl rfl rfl ?_
    refine LW.assign rfl rfl ?_
    refine LW.assign rfl rfl ?_
    refine LW.nil ?_
    refine NW.then_ ?_
    refine CW.seq ?_
    refine CW.region ?_
    refine LW.move rfl rfl ?_
    refine LW.move rfl rfl ?_
    refine LW.call (dev_Crash W B p bn bw bl 64 d1 ho1 [] A2 cp2 keep hsrc) Tryd.func29 rfl FactsLawSFirst.fname29 ⟨rfl, rfl, trivial⟩ (Take.both (Take.none _) (by repeat (first | exact Take.head _ _ | apply Take.tail))) rfl ?_
    rintro _ _ ⟨cp', cn, cw, cl, rfl, rfl⟩; refine LW.split2 (LW.split2p ?_)
    rcases hx1 _ (crash_mix ho1 keep) with hc1 | hc1
    · refine LW.call (slot_Open_none W B cp' cn cw cl 64 (d1.crash 64 keep) (ho1.crash keep) hc1) Tryd.func33 rfl FactsLawSFirst.fname33 ⟨rfl, trivial⟩ (by repeat (first | exact Take.head _ _ | apply Take.tail)) rfl ?_
      rintro _ _ ⟨rfl, rfl⟩
      refine LW.move rfl rfl ?_
      refine LW.extract rfl rfl rfl ?_
      refine LW.extract rfl rfl rfl ?_
      refine LW.extract rfl rfl rfl ?_
      refine LW.assign rfl rfl ?_
      refine LW.assign rfl rfl ?_
      refine LW.assign rfl rfl ?_
      refine LW.nil ?_
      refine NW.then_ ?_
      refine CW.seq ?_
      refine CW.region ?_
      refine LW.move rfl rfl ?_
      refine LW.eql true rfl rfl (beq_iff_eq.2 (by omega)) rfl ?_
      refine LW.move rfl rfl ?_
      refine LW.on 54 rfl rfl ?_
      refine LW.move rfl rfl ?_
      refine LW.on 54 rfl rfl ?_
      refine LW.ptrNil _ rfl Tryd.underlying44 rfl rfl ?_
      refine LW.pickT rfl rfl rfl ?_
      refine LW.move rfl rfl ?_
      refine LW.on 58 rfl rfl ?_
      refine LW.move rfl rfl ?_
      refine LW.on 58 rfl rfl ?_
      refine LW.eql false rfl rfl (beq_eq_false_iff_ne.2 (by omega)) rfl ?_
      refine LW.on 58 rfl rfl ?_
      refine LW.move rfl rfl ?_
      refine LW.off 61 rfl rfl rfl rfl ?_
      refine LW.off 61 rfl rfl rfl rfl ?_
      refine LW.on 58 rfl rfl ?_
      refine LW.pickF rfl rfl rfl ?_
      refine LW.on 58 rfl rfl ?_
      refine LW.move rfl rfl ?_
      refine LW.off 65 rfl rfl rfl rfl ?_
      refine LW.off 65 rfl rfl rfl rfl ?_
      refine LW.off 65 rfl rfl rfl rfl ?_
      refine LW.on 58 rfl rfl ?_
      refine LW.pickF rfl rfl rfl ?_
      refine LW.on 58 rfl rfl ?_
      refine LW.move rfl rfl ?_
      refine LW.on 70 rfl rfl ?_
      refine LW.move rfl rfl ?_
      refine LW.on 70 rfl rfl ?_
      refine LW.neq true rfl rfl (bne_iff_ne.2 (by omega)) rfl ?_
      refine LW.on 70 rfl rfl ?_
      refine LW.move rfl rfl ?_
      refine LW.on 73 rfl rfl ?_
      refine LW.move rfl rfl ?_
      refine LW.on 73 rfl rfl ?_
      refine LW.eql true rfl rfl (beq_iff_eq.2 (by omega)) rfl ?_
      refine LW.on 73 rfl rfl ?_
      refine LW.move rfl rfl ?_
      refine LW.on 76 rfl rfl ?_
      refine LW.move rfl rfl ?_
      refine LW.on 76 rfl rfl ?_
      refine LW.lenSlice rfl Tryd.underlying47 rfl ?_
      refine LW.on 76 rfl rfl ?_
      refine LW.eql true rfl rfl (rfl) rfl ?_
      refine LW.on 73 rfl rfl ?_
      refine LW.pickT rfl rfl rfl ?_
      refine LW.on 73 rfl rfl ?_
      refine LW.move rfl rfl ?_
      refine LW.off 81 rfl rfl rfl rfl ?_
      refine LW.off 81 rfl rfl rfl rfl ?_
      refine LW.off 81 rfl rfl rfl rfl ?_
      refine LW.offU 84 rfl rfl rfl ?_
      refine LW.offU 84 rfl rfl rfl ?_
      refine LW.offU 84 rfl rfl rfl ?_
      refine LW.off 81 rfl rfl rfl rfl ?_
      refine LW.on 73 rfl rfl ?_
      refine LW.pickT rfl rfl rfl ?_
      refine LW.on 70 rfl rfl ?_
      refine LW.pickT rfl rfl rfl ?_
      refine LW.on 58 rfl rfl ?_
      refine LW.pickF rfl rfl rfl ?_
      refine LW.pickT rfl rfl rfl ?_
      refine LW.assign rfl rfl ?_
      refine LW.nil ?_
      refine NW.then_ ?_
      refine CW.ret ?_
      refine NW.ret1 rfl rfl ⟨_, ⟨rfl, rfl⟩, ?_⟩
      exact Sub.nil _
    · refine LW.call (slot_Open_ok W B cp' cn cw cl 64 (d1.crash 64 keep) (ho1.crash keep) hc1 (by omega)) Tryd.func33 rfl FactsLawSFirst.fname33 ⟨rfl, trivial⟩ (by repeat (first | exact Take.head _ _ | apply Take.tail)) rfl ?_
      rintro _ _ ⟨q5, v5, ch5, rfl, ho5, rfl⟩; obtain ⟨A5, cp5, rfl, _, _⟩ := OwnS.val ho5; refine LW.split2 (LW.split2p ?_)
      refine LW.move rfl rfl ?_
      refine LW.extract rfl rfl rfl ?_
      refine LW.extract rfl rfl rfl ?_
      refine LW.extract rfl rfl rfl ?_
      refine LW.assign rfl rfl ?_
      refine LW.assign rfl rfl ?_
      refine LW.assign rfl rfl ?_
      refine LW.nil ?_
      refine NW.then_ ?_
      refine CW.seq ?_
      refine CW.region ?_
      refine LW.move rfl rfl ?_
      refine LW.eql true rfl rfl (beq_iff_eq.2 (by omega)) rfl ?_
      refine LW.move rfl rfl ?_
      refine LW.on 54 rfl rfl ?_
      refine LW.move rfl rfl ?_
      refine LW.on 54 rfl rfl ?_
      refine LW.ptrNil _ rfl Tryd.underlying44 rfl rfl ?_
      refine LW.pickT rfl rfl rfl ?_
      refine LW.move rfl rfl ?_
      refine LW.on 58 rfl rfl ?_
      refine LW.move rfl rfl ?_
      refine LW.on 58 rfl rfl ?_
      refine LW.eql false rfl rfl (beq_eq_false_iff_ne.2 (by omega)) rfl ?_
      refine LW.on 58 rfl rfl ?_
      refine LW.move rfl rfl ?_
      refine LW.off 61 rfl rfl rfl rfl ?_
      refine LW.off 61 rfl rfl rfl rfl ?_
      refine LW.on 58 rfl rfl ?_
      refine LW.pickF rfl rfl rfl ?_
      refine LW.on 58 rfl rfl ?_
      refine LW.move rfl rfl ?_
      refine LW.off 65 rfl rfl rfl rfl ?_
      refine LW.off 65 rfl rfl rfl rfl ?_
      refine LW.off 65 rfl rfl rfl rfl ?_
      refine LW.on 58 rfl rfl ?_
      refine LW.pickF rfl rfl rfl ?_
      refine LW.on 58 rfl rfl ?_
      refine LW.move rfl rfl ?_
      refine LW.on 70 rfl rfl ?_
      refine LW.move rfl rfl ?_
      refine LW.on 70 rfl rfl ?_
      refine LW.neq true rfl rfl (bne_iff_ne.2 (by omega)) rfl ?_
      refine LW.on 70 rfl rfl ?_
      refine LW.move rfl rfl ?_
      refine LW.on 73 rfl rfl ?_
      refine LW.move rfl rfl ?_
      refine LW.on 73 rfl rfl ?_
      refine LW.eql false rfl rfl (beq_eq_false_iff_ne.2 (by omega)) rfl ?_
      refine LW.on 73 rfl rfl ?_
      refine LW.move rfl rfl ?_
      refine LW.off 76 rfl rfl rfl rfl ?_
      refine LW.off 76 rfl rfl rfl rfl ?_
      refine LW.off 76 rfl rfl rfl rfl ?_
      refine LW.on 73 rfl rfl ?_
      refine LW.pickF rfl rfl rfl ?_
      refine LW.on 73 rfl rfl ?_
      refine LW.move rfl rfl ?_
      refine LW.on 81 rfl rfl ?_
      refine LW.move rfl rfl ?_
      refine LW.on 81 rfl rfl ?_
      refine LW.eql true rfl rfl (beq_iff_eq.2 (by omega)) rfl ?_
      refine LW.on 81 rfl rfl ?_
      refine LW.move rfl rfl ?_
      refine LW.on 84 rfl rfl ?_
      refine LW.move rfl rfl ?_
      refine LW.on 84 rfl rfl ?_
      refine LW.move rfl rfl ?_
      refine LW.on 84 rfl rfl ?_
      refine LW.call (law_ints_eq W B ch5 A5 A cp5 cp la.length la rfl ho5.src hsa.mono0 (by omega)) Tryd.func38 rfl FactsLawSFirst.fname38 ⟨rfl, rfl, trivial⟩ (by repeat (first | exact Take.head _ _ | apply Take.tail)) rfl ?_
      rintro _ _ ⟨rfl, rfl⟩
      refine LW.on 81 rfl rfl ?_
      refine LW.pickT rfl rfl rfl ?_
      refine LW.on 73 rfl rfl ?_
      refine LW.pickF rfl rfl rfl ?_
      refine LW.on 70 rfl rfl ?_
      refine LW.pickT rfl rfl rfl ?_
      refine LW.on 58 rfl rfl ?_
      refine LW.pickF rfl rfl rfl ?_
      refine LW.pickT rfl rfl rfl ?_
      refine LW.assign rfl rfl ?_
      refine LW.nil ?_
      refine NW.then_ ?_
      refine CW.ret ?_
      refine NW.ret1 rfl rfl ⟨_, ⟨rfl, rfl⟩, ?_⟩
      exact Sub.nil _
end
end Go.Proofs.YtpnhonhjheahhaaDoor
