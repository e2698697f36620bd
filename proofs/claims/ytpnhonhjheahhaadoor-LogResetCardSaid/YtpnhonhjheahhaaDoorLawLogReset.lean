/-
  LogReset, walked.
-/
import Derived.Test.YtpnhonhjheahhaaDoorFuz5
namespace Go.Proofs.YtpnhonhjheahhaaDoor
open Go.RowKit
namespace FactsLawLogReset
theorem fname21 : (Tryd.f21.name == "runtime.NumGoroutine") = false := by kernel_rfl
theorem fname22 : (Tryd.f22.name == "runtime.NumGoroutine") = false := by kernel_rfl
theorem fname23 : (Tryd.f23.name == "runtime.NumGoroutine") = false := by kernel_rfl
theorem fname25 : (Tryd.f25.name == "runtime.NumGoroutine") = false := by kernel_rfl
theorem fname26 : (Tryd.f26.name == "runtime.NumGoroutine") = false := by kernel_rfl
theorem fname27 : (Tryd.f27.name == "runtime.NumGoroutine") = false := by kernel_rfl
theorem fname28 : (Tryd.f28.name == "runtime.NumGoroutine") = false := by kernel_rfl
theorem fname29 : (Tryd.f29.name == "runtime.NumGoroutine") = false := by kernel_rfl
theorem fname30 : (Tryd.f30.name == "runtime.NumGoroutine") = false := by kernel_rfl
theorem fname31 : (Tryd.f31.name == "runtime.NumGoroutine") = false := by kernel_rfl
theorem fname41 : (Tryd.f41.name == "runtime.NumGoroutine") = false := by kernel_rfl
theorem info31 : (Tryd.prog.info? 31).map (fun i => (i.zero, i.size, i.bytes)) = some (some (.slice none 0 0), 1, 24) := by kernel_rfl
end FactsLawLogReset
section
variable (W : World) (B : Nat)
set_option maxHeartbeats 4000000 in
theorem law_LogReset (h0 : 0 < B) (hg : W.cell? ⟨0, 0, none⟩ = some (rty 110)) (z1 : Int) (area length : Int) (ha : I64 area) (hl : I64 length) (z3 : Int) (A : Option Addr) (cp : Nat) (keep : List Bool) (hsrc : Src W B [] A (keep.map .bool)) :
    Spec Tryd.prog W B 18 [.int .i64 z1, .int .i64 area, .int .i64 length, .int .i64 z3, .slice A keep.length cp] [] (fun v post => v = .bool true ∧ post = []) := by
  obtain ⟨n, hn, hn2, hy1, hy2⟩ := mod_pos z1 8 (by decide) (by decide)
  obtain ⟨m, hm, hm2, hx1, hx2⟩ := mod_pos z3 5 (by decide) (by decide)
  have hr0 := Rest.zero (n := 128) (by omega) (by omega)
  have hs0 := zero_slot 128 (by omega)
  refine Spec.enter ([]) Tryd.func18 rfl Tryd.ntmps18 rfl (by first | rfl | simp) (fun w0 => ?_)
  refine CW.seq ?_
  refine CW.region ?_
  refine LW.assign rfl rfl ?_
  refine LW.nil ?_
  refine NW.then_ ?_
  refine CW.seq ?_
  refine CW.region ?_
  refine LW.call (law_begun4 W B h0 hg) Tryd.func21 rfl FactsLawLogReset.fname21 trivial (Take.none _) rfl ?_
  rintro _ _ ⟨rfl, rfl⟩
  refine LW.assign rfl rfl ?_
  refine LW.nil ?_
  refine NW.then_ ?_
  refine CW.seq ?_
  refine CW.seq ?_
  refine CW.region ?_
  refine LW.move rfl rfl ?_
  refine LW.not (false) rfl (rfl) rfl ?_
  refine LW.nil ?_
  refine NW.then_ ?_
  refine CW.cond_false rfl ?_
  refine CW.skip ?_
  refine NW.then_ ?_
  refine CW.seq ?_
  refine CW.region ?_
  refine LW.move rfl rfl ?_
  refine LW.rem (z1.tmod 8) rfl rfl (by decide) (rfl) rfl ?_
  refine LW.add (z1.tmod 8 + 8) rfl rfl (by first | rfl | exact wr64 (by omega) (by omega) (by omega)) rfl ?_
  refine LW.rem ((n : Int)) rfl rfl (by decide) (hn) rfl ?_
  refine LW.assign rfl rfl ?_
  refine LW.nil ?_
  refine NW.then_ ?_
  refine CW.seq ?_
  have hrn : ringN 128 = 3968 := rfl
  refine CW.region ?_
  refine LW.call (dev_New W B 128 (by omega) (by omega)) Tryd.func23 rfl FactsLawLogReset.fname23 ⟨rfl, trivial⟩ (Take.none _) rfl ?_
  rintro _ _ ⟨p, bn, bw, bl, rfl, rfl⟩
  refine LW.assign rfl rfl ?_
  refine LW.nil ?_
  refine NW.then_ ?_
  refine CW.seq ?_
  generalize DevS.zero 128 = d0 at hr0 hs0 ⊢
  refine CW.region ?_
  refine LW.move rfl rfl ?_
  refine LW.call (wal_Make_ok W B p bn bw bl 128 d0 hr0.ok hr0.up (hold_slot hr0.flat (by omega) hs0) (by decide)) Tryd.func22 rfl FactsLawLogReset.fname22 ⟨rfl, trivial⟩ (by repeat (first | exact Take.head _ _ | apply Take.tail)) rfl ?_
  rintro _ _ ⟨l, q, d1, rfl, hr1, hf1, hl1, _, rfl⟩; refine LW.split2 ?_
  refine LW.move rfl rfl ?_
  refine LW.extract rfl rfl rfl ?_
  refine LW.extract rfl rfl rfl ?_
  refine LW.assign rfl rfl ?_
  refine LW.assign rfl rfl ?_
  refine LW.nil ?_
  refine NW.then_ ?_
  refine CW.seq ?_
  refine CW.seq ?_
  refine CW.region ?_
  refine LW.move rfl rfl ?_
  refine LW.neq false rfl rfl (bne_eq_false_iff_eq.2 (by omega)) rfl ?_
  refine LW.move rfl rfl ?_
  refine LW.on 40 rfl rfl ?_
  refine LW.move rfl rfl ?_
  refine LW.on 40 rfl rfl ?_
  refine LW.call (wal_Reset_ok W B l q p bn bw bl 128 d1 hr1 hf1 hl1 (by decide) 3 4 ⟨by decide, by decide⟩ ⟨by decide, by decide⟩) Tryd.func27 rfl FactsLawLogReset.fname27 ⟨rfl, rfl, rfl, trivial⟩ (Take.both (by repeat (first | exact Take.head _ _ | apply Take.tail)) (by repeat (first | exact Take.head _ _ | apply Take.tail))) rfl ?_
  rintro _ _ ⟨rfl, d2, hr2, hf2, hl2, _, rfl⟩; refine LW.split2 ?_
  refine LW.on 40 rfl rfl ?_
  refine LW.neq false rfl rfl (bne_eq_false_iff_eq.2 (by omega)) rfl ?_
  refine LW.pickF rfl rfl rfl ?_
  refine LW.nil ?_
  refine NW.then_ ?_
  refine CW.cond_false rfl ?_
  refine CW.skip ?_
  refine NW.then_ ?_
  refine CW.seq ?_
  refine CW.region ?_
  refine LW.assign rfl rfl ?_
  refine LW.nil ?_
  refine NW.then_ ?_
  refine CW.seq ?_
  refine CW.seq ?_
  refine CW.region ?_
  refine LW.assign rfl rfl ?_
  refine LW.nil ?_
  refine NW.then_ ?_
  refine CW.block ?_
  refine CW.loop (fun st : Nat × LogS × DevS × Value × List Value × List Row × List Row => [(16, .int .i64 (st.1 : Int)), (15, st.2.2.2.1), (13, .pointer (some ⟨l, 0, none⟩)), (12, .pointer (some ⟨p, 0, none⟩)), (0, .int .i64 (n : Int)), (1, .int .i64 area), (2, .int .i64 length), (3, .int .i64 z3), (4, .slice A keep.length cp)]) (fun st => [logC l q p st.2.1.log, devC p bn bw bl 128 st.2.2.1, st.2.2.2.2.2.1, st.2.2.2.2.2.2]) (fun st => st.1 ≤ n ∧ Rest 128 st.2.2.1 ∧ st.2.1.Fine 128 ∧ LogAt st.2.2.1.N st.2.1 ∧ st.2.1.serial = 2 + (st.1 : Int) ∧ st.2.1.recs.length = st.1 ∧ st.2.1.used ≤ st.1 * 18 ∧ OwnS 31 1 st.2.2.2.1 st.2.1.recs.length st.2.2.2.2.1 st.2.2.2.2.2.1 ∧ RecsAt W B st.2.2.2.2.2.2 st.2.2.2.2.1 st.2.1.recs ∧ st.2.1.area = 3 ∧ st.2.1.length = 4) (fun st => n - st.1) (0, ⟨0 + 1 + 1, 3, 4, []⟩, d2, .slice none 0 0, [], [], []) ?st11_j ?st11_e ?st11_h ?st11_r
  case st11_j => exact ⟨Nat.zero_le _, hr2, hf2, hl2, by dsimp only; omega, rfl, Nat.zero_le _, OwnS.nil, RecsAt.nil, rfl, rfl⟩
  case st11_e => repeat (first | exact Env.Le.nil _ | refine Env.Le.cons rfl ?_)
  case st11_h => repeat (first | exact Sub.heap_nil _ | exact Sub.refl _ | refine Sub.heap_cons (Take.none _) ?_ | refine Sub.heap_cons (by repeat (first | exact Take.head _ _ | apply Take.tail)) ?_)
  case st11_r =>
    clear hr1 hf1 hl1 hr2 hf2 hl2; rintro ⟨i, g, e, v, vs, ch, rr⟩ ⟨hin, her, hef, hel, hes, hlen, hus, ho, hra, hga, hgl⟩; dsimp only at hin her hef hel hes hlen hus ho hra hga hgl
    try dsimp only
    refine CW.seq ?_
    refine CW.seq ?_
    refine CW.region ?_
    refine LW.move rfl rfl ?_
    refine LW.move rfl rfl ?_
    refine LW.lss (decide ((i : Int) < (n : Int))) rfl rfl (rfl) rfl ?_
    refine LW.nil ?_
    refine NW.then_ ?_
    refine CW.cond rfl (fun hc47 => ?_) (fun hc47 => ?_)
    · replace hc47 := of_decide_eq_true hc47
      try dsimp only at hc47
      have hin' : i < n := by omega
      have htk : ∀ x, okRec (textB (9 + i) x) := fun x => ⟨by rw [textB_len]; omega, by rw [textB_len]; omega⟩
      refine CW.skip ?_
      refine NW.then_ ?_
      refine CW.seq ?_
      refine CW.block ?_
      refine CW.seq ?_
      refine CW.region ?_
      refine LW.move rfl rfl ?_
      refine LW.add (((9 + i : Nat) : Int)) rfl rfl (by first | rfl | exact wr64 (by omega) (by omega) (by omega)) rfl ?_
      refine LW.move rfl rfl ?_
      refine LW.convInt (((UInt8.ofNat i).toNat : Int)) rfl Tryd.underlying3 Tryd.underlying5 (u8_conv _) rfl ?_
      refine LW.call (law_text' W B (9 + i) (by omega) (UInt8.ofNat i)) Tryd.func26 rfl FactsLawLogReset.fname26 ⟨rfl, rfl, trivial⟩ (Take.none _) rfl ?_
      rintro _ _ ⟨b1, rfl, rfl⟩
      refine LW.assign rfl rfl ?_
      refine LW.nil ?_
      refine NW.then_ ?_
      refine CW.seq ?_
      refine CW.seq ?_
      have htz := textB_len (9 + i) (UInt8.ofNat i)
      replace htk := htk (UInt8.ofNat i)
      generalize textB (9 + i) (UInt8.ofNat i) = t at htz htk ⊢
      refine CW.region ?_
      refine LW.move rfl rfl ?_
      refine LW.move rfl rfl ?_
      refine LW.call (wal_Append_ok W B l q p bn bw bl 128 e her hef hel (by omega) t htk (by omega) [cr b1 5 (t.map u8v)] (some ⟨b1, 0, none⟩) t.length (srcText W B _ _)) Tryd.func25 rfl FactsLawLogReset.fname25 ⟨rfl, rfl, trivial⟩ (Take.both (by repeat (first | exact Take.head _ _ | apply Take.tail)) (Take.both (by repeat (first | exact Take.head _ _ | apply Take.tail)) (by repeat (first | exact Take.head _ _ | apply Take.tail)))) rfl ?_
      rintro _ _ ⟨rfl, e2, her2, hef2, hel2, _, rfl⟩; refine LW.split2 (LW.split2p ?_)
      refine LW.neq false rfl rfl (bne_eq_false_iff_eq.2 (by omega)) rfl ?_
      refine LW.nil ?_
      refine NW.then_ ?_
      refine CW.cond_false rfl ?_
      refine CW.skip ?_
      refine NW.then_ ?_
      refine CW.region ?_
      refine LW.move rfl rfl ?_
      refine LW.move rfl rfl ?_
      refine LW.buildSlice (vs := [_]) ⟨rfl, trivial⟩ rfl (by intro v hv; simp at hv; subst hv; rfl) Tryd.underlying36 FactsLawLogReset.info31 rfl (by decide) (by decide) rfl ?_
      intro bs61
      refine LW.append ([.slice (some ⟨b1, 0, none⟩) t.length t.length]) rfl rfl Tryd.underlying36 Tryd.underlying36 (.inr ⟨_, rfl⟩) FactsLawLogReset.info31 rfl (ho) (by repeat (first | exact Take.head _ _ | apply Take.tail)) (fun _ => lenOf_slice _ _ _ _) (first_rd (RdAt.row (by repeat (first | exact Take.head _ _ | apply Take.tail)) (fun j v hj => by rw [Nat.zero_add]; exact hj)) rfl (fun h => (by cases h))) (rfl) (by intro u hu; simp at hu; subst hu; rfl) (by omega) (by omega) rfl ?_
      intro v6 ch6 ho6
      refine LW.assign rfl rfl ?_
      refine LW.nil ?_
      refine NW.block ?_
      refine NW.then_ ?_
      refine CW.region ?_
      refine LW.move rfl rfl ?_
      refine LW.add ((i + 1 : Int)) rfl rfl (by first | rfl | exact wr64 (by omega) (by omega) (by omega)) rfl ?_
      refine LW.assign rfl rfl ?_
      refine LW.nil ?_
      refine NW.meet ((i + 1, ⟨g.serial + 1, g.area, g.length, g.recs ++ [t]⟩, e2, v6, vs ++ [.slice (some ⟨b1, 0, none⟩) t.length t.length], ch6, [cr b1 5 (t.map u8v)] ++ rr)) ?j1 ?e1 ?h1
      case j1 => exact ⟨⟨by dsimp only; omega, her2, hef2, hel2, by dsimp only; omega, by dsimp only; rw [List.length_append, hlen]; rfl, by dsimp only; rw [used_app, show LogS.used ⟨g.serial + 1, g.area, g.length, g.recs⟩ = g.used from rfl]; omega, by rw [List.length_append]; exact ho6, (hra.more (fun x hx => List.mem_append_right _ hx)).app ((RecAt.own (OwnB.text b1 t)).more (fun x hx => List.mem_append_left _ hx)), hga, hgl⟩, by dsimp only; omega⟩
      case e1 => repeat (first | exact Env.Le.nil _ | refine Env.Le.cons rfl ?_)
      case h1 => exact Sub.heap_cons (by repeat (first | exact Take.head _ _ | apply Take.tail)) (Sub.heap_cons (by repeat (first | exact Take.head _ _ | apply Take.tail)) (Sub.heap_cons (by repeat (first | exact Take.head _ _ | apply Take.tail)) (Sub.heap_cons (Take.both (by repeat (first | exact Take.head _ _ | apply Take.tail)) (by repeat (first | exact Take.head _ _ | apply Take.tail))) (Sub.heap_nil _))))
    · replace hc47 := of_decide_eq_false hc47
      try dsimp only at hc47
      refine CW.exit ?_
      refine NW.then_exit ?_
      refine NW.then_exit ?_
      refine NW.block_exit ?_
      refine NW.then_ ?_
      refine CW.seq ?_
      obtain ⟨Aw, cpw, rfl, hAw, hcw⟩ := OwnS.val ho
      refine CW.region ?_
      refine LW.move rfl rfl ?_
      refine LW.move rfl rfl ?_
      refine LW.rem (z3.tmod 5) rfl rfl (by decide) (rfl) rfl ?_
      refine LW.add (z3.tmod 5 + 5) rfl rfl (by first | rfl | exact wr64 (by omega) (by omega) (by omega)) rfl ?_
      refine LW.rem ((m : Int)) rfl rfl (by decide) (hm) rfl ?_
      refine LW.call (dev_Fuse W B p bn bw bl 128 e (m : Int)) Tryd.func41 rfl FactsLawLogReset.fname41 ⟨rfl, rfl, trivial⟩ (by repeat (first | exact Take.head _ _ | apply Take.tail)) rfl ?_
      rintro _ _ ⟨rfl, rfl⟩
      refine LW.nil ?_
      refine NW.then_ ?_
      refine CW.seq ?_
      refine CW.region ?_
      refine LW.move rfl rfl ?_
      refine LW.move rfl rfl ?_
      refine LW.move rfl rfl ?_
      refine LW.call (wal_Reset_fz W B l q p bn bw bl 128 (e.blow (m : Int)) (ok_blow her.ok m (by omega)) hef (hold_log (flat_blow her.flat _) (by omega) hef hel) (by omega) area length ha hl) Tryd.func27 rfl FactsLawLogReset.fname27 ⟨rfl, rfl, rfl, trivial⟩ (Take.both (by repeat (first | exact Take.head _ _ | apply Take.tail)) (by repeat (first | exact Take.head _ _ | apply Take.tail))) rfl ?_
      rintro v3 post3 hR
      rcases hR with ⟨rfl, d3, ho3, hf3, hl3, hg3, rfl⟩ | ⟨rfl, d3, L, ho3, hd3, hL3, hx3, hg3, rfl⟩
      · refine LW.split2 ?_
        refine LW.assign rfl rfl ?_
        refine LW.nil ?_
        refine NW.then_ ?_
        refine CW.seq ?_
        refine CW.region ?_
        refine LW.move rfl rfl ?_
        refine LW.move rfl rfl ?_
        refine LW.call (dev_Crash W B p bn bw bl 128 d3 ho3 [] A cp keep hsrc) Tryd.func29 rfl FactsLawLogReset.fname29 ⟨rfl, rfl, trivial⟩ (Take.both (Take.none _) (by repeat (first | exact Take.head _ _ | apply Take.tail))) rfl ?_
        rintro _ _ ⟨cp', cn, cw, cl, rfl, rfl⟩; refine LW.split2 (LW.split2p ?_)
        refine LW.call (wal_Open_ok W B cp' cn cw cl 128 (d3.crash 128 keep) (ho3.crash keep) hg3 (crash_log ho3 hf3 hg3 hl3 keep)) Tryd.func28 rfl FactsLawLogReset.fname28 ⟨rfl, trivial⟩ (by repeat (first | exact Take.head _ _ | apply Take.tail)) rfl ?_
        rintro _ _ ⟨l5, q5, v5, vs5, ch5, ar5, rfl, ho5, hr5, rfl⟩; obtain ⟨A5, cp5, rfl, hA5, hc5⟩ := OwnS.val ho5; refine LW.split2 (LW.split2p (LW.split3p (LW.split3p ?_)))
        refine LW.move rfl rfl ?_
        refine LW.extract rfl rfl rfl ?_
        refine LW.extract rfl rfl rfl ?_
        refine LW.extract rfl rfl rfl ?_
        refine LW.assign rfl rfl ?_
        refine LW.assign rfl rfl ?_
        refine LW.assign rfl rfl ?_
        refine LW.nil ?_
        refine NW.then_ ?_
        refine CW.seq ?_
        refine CW.seq ?_
        refine CW.region ?_
        refine LW.move rfl rfl ?_
        refine LW.neq false rfl rfl (bne_eq_false_iff_eq.2 (by omega)) rfl ?_
        refine LW.nil ?_
        refine NW.then_ ?_
        refine CW.cond_false rfl ?_
        refine CW.skip ?_
        refine NW.then_ ?_
        refine CW.seq ?_
        refine CW.region ?_
        refine LW.move rfl rfl ?_
        refine LW.call (wal_Area W B l5 q5 cp' (LogS.log ⟨g.serial + 1, area, length, []⟩)) Tryd.func31 rfl FactsLawLogReset.fname31 ⟨rfl, trivial⟩ (by repeat (first | exact Take.head _ _ | apply Take.tail)) rfl ?_
        rintro _ _ ⟨rfl, rfl⟩
        refine LW.move rfl rfl ?_
        refine LW.extract rfl rfl rfl ?_
        refine LW.extract rfl rfl rfl ?_
        refine LW.assign rfl rfl ?_
        refine LW.assign rfl rfl ?_
        refine LW.nil ?_
        refine NW.then_ ?_
        refine CW.seq ?_
        refine CW.region ?_
        refine LW.move rfl rfl ?_
        refine LW.move rfl rfl ?_
        refine LW.eql true rfl rfl (beq_iff_eq.2 rfl) rfl ?_
        refine LW.move rfl rfl ?_
        refine LW.on 91 rfl rfl ?_
        refine LW.move rfl rfl ?_
        refine LW.on 91 rfl rfl ?_
        refine LW.move rfl rfl ?_
        refine LW.on 91 rfl rfl ?_
        refine LW.eql true rfl rfl (beq_iff_eq.2 rfl) rfl ?_
        refine LW.pickT rfl rfl rfl ?_
        refine LW.move rfl rfl ?_
        refine LW.on 96 rfl rfl ?_
        refine LW.move rfl rfl ?_
        refine LW.on 96 rfl rfl ?_
        refine LW.lenSlice rfl Tryd.underlying36 rfl ?_
        refine LW.on 96 rfl rfl ?_
        refine LW.eql true rfl rfl (rfl) rfl ?_
        refine LW.pickT rfl rfl rfl ?_
        refine LW.assign rfl rfl ?_
        refine LW.nil ?_
        refine NW.then_ ?_
        refine CW.seq ?_
        refine CW.region ?_
        refine LW.move rfl rfl ?_
        refine LW.move rfl rfl ?_
        refine LW.off 102 rfl rfl rfl rfl ?_
        refine LW.off 102 rfl rfl rfl rfl ?_
        refine LW.off 102 rfl rfl rfl rfl ?_
        refine LW.offU 105 rfl rfl rfl ?_
        refine LW.offU 105 rfl rfl rfl ?_
        refine LW.off 102 rfl rfl rfl rfl ?_
        refine LW.off 102 rfl rfl rfl rfl ?_
        refine LW.offU 109 rfl rfl rfl ?_
        refine LW.offU 109 rfl rfl rfl ?_
        refine LW.off 102 rfl rfl rfl rfl ?_
        refine LW.off 102 rfl rfl rfl rfl ?_
        refine LW.offU 113 rfl rfl rfl ?_
        refine LW.offU 113 rfl rfl rfl ?_
        refine LW.offU 113 rfl rfl rfl ?_
        refine LW.off 102 rfl rfl rfl rfl ?_
        refine LW.pickT rfl rfl rfl ?_
        refine LW.assign rfl rfl ?_
        refine LW.nil ?_
        refine NW.then_ ?_
        refine CW.ret ?_
        refine NW.ret1 rfl rfl ⟨_, ⟨rfl, rfl⟩, ?_⟩
        exact Sub.nil _
      · refine LW.split2 ?_
        refine LW.assign rfl rfl ?_
        refine LW.nil ?_
        refine NW.then_ ?_
        refine CW.seq ?_
        refine CW.region ?_
        refine LW.move rfl rfl ?_
        refine LW.move rfl rfl ?_
        refine LW.call (dev_Crash W B p bn bw bl 128 d3 ho3 [] A cp keep hsrc) Tryd.func29 rfl FactsLawLogReset.fname29 ⟨rfl, rfl, trivial⟩ (Take.both (Take.none _) (by repeat (first | exact Take.head _ _ | apply Take.tail))) rfl ?_
        rintro _ _ ⟨cp', cn, cw, cl, rfl, rfl⟩; refine LW.split2 (LW.split2p ?_)
        rcases hx3 _ (crash_mix ho3 keep) with hc3 | hc3
        · refine LW.call (wal_Open_ok W B cp' cn cw cl 128 (d3.crash 128 keep) (ho3.crash keep) hef hc3) Tryd.func28 rfl FactsLawLogReset.fname28 ⟨rfl, trivial⟩ (by repeat (first | exact Take.head _ _ | apply Take.tail)) rfl ?_
          rintro _ _ ⟨l5, q5, v5, vs5, ch5, ar5, rfl, ho5, hr5, rfl⟩; obtain ⟨A5, cp5, rfl, hA5, hc5⟩ := OwnS.val ho5; refine LW.split2 (LW.split2p (LW.split3p (LW.split3p ?_)))
          refine LW.move rfl rfl ?_
          refine LW.extract rfl rfl rfl ?_
          refine LW.extract rfl rfl rfl ?_
          refine LW.extract rfl rfl rfl ?_
          refine LW.assign rfl rfl ?_
          refine LW.assign rfl rfl ?_
          refine LW.assign rfl rfl ?_
          refine LW.nil ?_
          refine NW.then_ ?_
          refine CW.seq ?_
          refine CW.seq ?_
          refine CW.region ?_
          refine LW.move rfl rfl ?_
          refine LW.neq false rfl rfl (bne_eq_false_iff_eq.2 (by omega)) rfl ?_
          refine LW.nil ?_
          refine NW.then_ ?_
          refine CW.cond_false rfl ?_
          refine CW.skip ?_
          refine NW.then_ ?_
          refine CW.seq ?_
          refine CW.region ?_
          refine LW.move rfl rfl ?_
          refine LW.call (wal_Area W B l5 q5 cp' (LogS.log g)) Tryd.func31 rfl FactsLawLogReset.fname31 ⟨rfl, trivial⟩ (by repeat (first | exact Take.head _ _ | apply Take.tail)) rfl ?_
          rintro _ _ ⟨rfl, rfl⟩
          refine LW.move rfl rfl ?_
          refine LW.extract rfl rfl rfl ?_
          refine LW.extract rfl rfl rfl ?_
          refine LW.assign rfl rfl ?_
          refine LW.assign rfl rfl ?_
          refine LW.nil ?_
          refine NW.then_ ?_
          refine CW.seq ?_
          refine CW.region ?_
          refine LW.move rfl rfl ?_
          refine LW.move rfl rfl ?_
          by_cases h3 : 3 = area
          · refine LW.eql true rfl rfl (beq_iff_eq.2 (show g.area = area by omega)) rfl ?_
            refine LW.move rfl rfl ?_
            refine LW.on 91 rfl rfl ?_
            refine LW.move rfl rfl ?_
            refine LW.on 91 rfl rfl ?_
            refine LW.move rfl rfl ?_
            by_cases h4 : 4 = length
            · refine LW.on 91 rfl rfl ?_
              refine LW.eql true rfl rfl (beq_iff_eq.2 (show g.length = length by omega)) rfl ?_
              refine LW.pickT rfl rfl rfl ?_
              refine LW.move rfl rfl ?_
              refine LW.on 96 rfl rfl ?_
              refine LW.move rfl rfl ?_
              refine LW.on 96 rfl rfl ?_
              refine LW.lenSlice rfl Tryd.underlying36 rfl ?_
              by_cases h5 : g.recs.length = 0
              · refine LW.on 96 rfl rfl ?_
                refine LW.eql true rfl rfl (beq_iff_eq.2 (by omega)) rfl ?_
                refine LW.pickT rfl rfl rfl ?_
                refine LW.assign rfl rfl ?_
                refine LW.nil ?_
                refine NW.then_ ?_
                refine CW.seq ?_
                refine CW.region ?_
                refine LW.move rfl rfl ?_
                refine LW.move rfl rfl ?_
                refine LW.off 102 rfl rfl rfl rfl ?_
                refine LW.off 102 rfl rfl rfl rfl ?_
                refine LW.off 102 rfl rfl rfl rfl ?_
                refine LW.offU 105 rfl rfl rfl ?_
                refine LW.offU 105 rfl rfl rfl ?_
                refine LW.off 102 rfl rfl rfl rfl ?_
                refine LW.off 102 rfl rfl rfl rfl ?_
                refine LW.offU 109 rfl rfl rfl ?_
                refine LW.offU 109 rfl rfl rfl ?_
                refine LW.off 102 rfl rfl rfl rfl ?_
                refine LW.off 102 rfl rfl rfl rfl ?_
                refine LW.offU 113 rfl rfl rfl ?_
                refine LW.offU 113 rfl rfl rfl ?_
                refine LW.offU 113 rfl rfl rfl ?_
                refine LW.off 102 rfl rfl rfl rfl ?_
                refine LW.pickT rfl rfl rfl ?_
                refine LW.assign rfl rfl ?_
                refine LW.nil ?_
                refine NW.then_ ?_
                refine CW.ret ?_
                refine NW.ret1 rfl rfl ⟨_, ⟨rfl, rfl⟩, ?_⟩
                exact Sub.nil _
              · refine LW.on 96 rfl rfl ?_
                refine LW.eql false rfl rfl (beq_eq_false_iff_ne.2 (by omega)) rfl ?_
                refine LW.pickT rfl rfl rfl ?_
                refine LW.assign rfl rfl ?_
                refine LW.nil ?_
                refine NW.then_ ?_
                refine CW.seq ?_
                refine CW.region ?_
                refine LW.move rfl rfl ?_
                refine LW.move rfl rfl ?_
                refine LW.on 102 rfl rfl ?_
                refine LW.move rfl rfl ?_
                refine LW.on 102 rfl rfl ?_
                refine LW.neq true rfl rfl (bne_iff_ne.2 (by omega)) rfl ?_
                refine LW.on 102 rfl rfl ?_
                refine LW.move rfl rfl ?_
                refine LW.on 105 rfl rfl ?_
                refine LW.move rfl rfl ?_
                refine LW.on 105 rfl rfl ?_
                refine LW.eql true rfl rfl (beq_iff_eq.2 hga) rfl ?_
                refine LW.on 102 rfl rfl ?_
                refine LW.pickT rfl rfl rfl ?_
                refine LW.on 102 rfl rfl ?_
                refine LW.move rfl rfl ?_
                refine LW.on 109 rfl rfl ?_
                refine LW.move rfl rfl ?_
                refine LW.on 109 rfl rfl ?_
                refine LW.eql true rfl rfl (beq_iff_eq.2 hgl) rfl ?_
                refine LW.on 102 rfl rfl ?_
                refine LW.pickT rfl rfl rfl ?_
                refine LW.on 102 rfl rfl ?_
                refine LW.move rfl rfl ?_
                refine LW.on 113 rfl rfl ?_
                refine LW.move rfl rfl ?_
                refine LW.on 113 rfl rfl ?_
                refine LW.move rfl rfl ?_
                refine LW.on 113 rfl rfl ?_
                refine LW.call (law_records_eq W B (ch5 ++ (ar5 ++ (ch ++ rr))) A5 Aw cp5 cpw g.recs.length g.recs.length g.recs rfl rfl vs5 vs (Src.left W B ho5.src) (hr5.more (fun x hx => by simp [hx])) (Src.right W B (Src.right W B (Src.left W B ho.src))) (hra.more (fun x hx => by simp [hx])) (by omega)) Tryd.func30 rfl FactsLawLogReset.fname30 ⟨rfl, rfl, trivial⟩ (Take.both (by repeat (first | exact Take.head _ _ | apply Take.tail)) (Take.both (by repeat (first | exact Take.head _ _ | apply Take.tail)) (Take.both (by repeat (first | exact Take.head _ _ | apply Take.tail)) (by repeat (first | exact Take.head _ _ | apply Take.tail))))) rfl ?_
                rintro _ _ ⟨rfl, rfl⟩; refine LW.split2 ?_
                refine LW.on 102 rfl rfl ?_
                refine LW.pickT rfl rfl rfl ?_
                refine LW.pickF rfl rfl rfl ?_
                refine LW.assign rfl rfl ?_
                refine LW.nil ?_
                refine NW.then_ ?_
                refine CW.ret ?_
                refine NW.ret1 rfl rfl ⟨_, ⟨rfl, rfl⟩, ?_⟩
                exact Sub.nil _
            · refine LW.on 91 rfl rfl ?_
              refine LW.eql false rfl rfl (beq_eq_false_iff_ne.2 (show ¬ g.length = length by omega)) rfl ?_
              refine LW.pickT rfl rfl rfl ?_
              refine LW.move rfl rfl ?_
              refine LW.off 96 rfl rfl rfl rfl ?_
              refine LW.off 96 rfl rfl rfl rfl ?_
              refine LW.off 96 rfl rfl rfl rfl ?_
              refine LW.pickF rfl rfl rfl ?_
              refine LW.assign rfl rfl ?_
              refine LW.nil ?_
              refine NW.then_ ?_
              refine CW.seq ?_
              refine CW.region ?_
              refine LW.move rfl rfl ?_
              refine LW.move rfl rfl ?_
              refine LW.on 102 rfl rfl ?_
              refine LW.move rfl rfl ?_
              refine LW.on 102 rfl rfl ?_
              refine LW.neq true rfl rfl (bne_iff_ne.2 (by omega)) rfl ?_
              refine LW.on 102 rfl rfl ?_
              refine LW.move rfl rfl ?_
              refine LW.on 105 rfl rfl ?_
              refine LW.move rfl rfl ?_
              refine LW.on 105 rfl rfl ?_
              refine LW.eql true rfl rfl (beq_iff_eq.2 hga) rfl ?_
              refine LW.on 102 rfl rfl ?_
              refine LW.pickT rfl rfl rfl ?_
              refine LW.on 102 rfl rfl ?_
              refine LW.move rfl rfl ?_
              refine LW.on 109 rfl rfl ?_
              refine LW.move rfl rfl ?_
              refine LW.on 109 rfl rfl ?_
              refine LW.eql true rfl rfl (beq_iff_eq.2 hgl) rfl ?_
              refine LW.on 102 rfl rfl ?_
              refine LW.pickT rfl rfl rfl ?_
              refine LW.on 102 rfl rfl ?_
              refine LW.move rfl rfl ?_
              refine LW.on 113 rfl rfl ?_
              refine LW.move rfl rfl ?_
              refine LW.on 113 rfl rfl ?_
              refine LW.move rfl rfl ?_
              refine LW.on 113 rfl rfl ?_
              refine LW.call (law_records_eq W B (ch5 ++ (ar5 ++ (ch ++ rr))) A5 Aw cp5 cpw g.recs.length g.recs.length g.recs rfl rfl vs5 vs (Src.left W B ho5.src) (hr5.more (fun x hx => by simp [hx])) (Src.right W B (Src.right W B (Src.left W B ho.src))) (hra.more (fun x hx => by simp [hx])) (by omega)) Tryd.func30 rfl FactsLawLogReset.fname30 ⟨rfl, rfl, trivial⟩ (Take.both (by repeat (first | exact Take.head _ _ | apply Take.tail)) (Take.both (by repeat (first | exact Take.head _ _ | apply Take.tail)) (Take.both (by repeat (first | exact Take.head _ _ | apply Take.tail)) (by repeat (first | exact Take.head _ _ | apply Take.tail))))) rfl ?_
              rintro _ _ ⟨rfl, rfl⟩; refine LW.split2 ?_
              refine LW.on 102 rfl rfl ?_
              refine LW.pickT rfl rfl rfl ?_
              refine LW.pickF rfl rfl rfl ?_
              refine LW.assign rfl rfl ?_
              refine LW.nil ?_
              refine NW.then_ ?_
              refine CW.ret ?_
              refine NW.ret1 rfl rfl ⟨_, ⟨rfl, rfl⟩, ?_⟩
              exact Sub.nil _
          · refine LW.eql false rfl rfl (beq_eq_false_iff_ne.2 (show ¬ g.area = area by omega)) rfl ?_
            refine LW.move rfl rfl ?_
            refine LW.off 91 rfl rfl rfl rfl ?_
            refine LW.off 91 rfl rfl rfl rfl ?_
            refine LW.off 91 rfl rfl rfl rfl ?_
            refine LW.pickF rfl rfl rfl ?_
            refine LW.move rfl rfl ?_
            refine LW.off 96 rfl rfl rfl rfl ?_
            refine LW.off 96 rfl rfl rfl rfl ?_
            refine LW.off 96 rfl rfl rfl rfl ?_
            refine LW.pickF rfl rfl rfl ?_
            refine LW.assign rfl rfl ?_
            refine LW.nil ?_
            refine NW.then_ ?_
            refine CW.seq ?_
            refine CW.region ?_
            refine LW.move rfl rfl ?_
            refine LW.move rfl rfl ?_
            refine LW.on 102 rfl rfl ?_
            refine LW.move rfl rfl ?_
            refine LW.on 102 rfl rfl ?_
            refine LW.neq true rfl rfl (bne_iff_ne.2 (by omega)) rfl ?_
            refine LW.on 102 rfl rfl ?_
            refine LW.move rfl rfl ?_
            refine LW.on 105 rfl rfl ?_
            refine LW.move rfl rfl ?_
            refine LW.on 105 rfl rfl ?_
            refine LW.eql true rfl rfl (beq_iff_eq.2 hga) rfl ?_
            refine LW.on 102 rfl rfl ?_
            refine LW.pickT rfl rfl rfl ?_
            refine LW.on 102 rfl rfl ?_
            refine LW.move rfl rfl ?_
            refine LW.on 109 rfl rfl ?_
            refine LW.move rfl rfl ?_
            refine LW.on 109 rfl rfl ?_
            refine LW.eql true rfl rfl (beq_iff_eq.2 hgl) rfl ?_
            refine LW.on 102 rfl rfl ?_
            refine LW.pickT rfl rfl rfl ?_
            refine LW.on 102 rfl rfl ?_
            refine LW.move rfl rfl ?_
            refine LW.on 113 rfl rfl ?_
            refine LW.move rfl rfl ?_
            refine LW.on 113 rfl rfl ?_
            refine LW.move rfl rfl ?_
            refine LW.on 113 rfl rfl ?_
            refine LW.call (law_records_eq W B (ch5 ++ (ar5 ++ (ch ++ rr))) A5 Aw cp5 cpw g.recs.length g.recs.length g.recs rfl rfl vs5 vs (Src.left W B ho5.src) (hr5.more (fun x hx => by simp [hx])) (Src.right W B (Src.right W B (Src.left W B ho.src))) (hra.more (fun x hx => by simp [hx])) (by omega)) Tryd.func30 rfl FactsLawLogReset.fname30 ⟨rfl, rfl, trivial⟩ (Take.both (by repeat (first | exact Take.head _ _ | apply Take.tail)) (Take.both (by repeat (first | exact Take.head _ _ | apply Take.tail)) (Take.both (by repeat (first | exact Take.head _ _ | apply Take.tail)) (by repeat (first | exact Take.head _ _ | apply Take.tail))))) rfl ?_
            rintro _ _ ⟨rfl, rfl⟩; refine LW.split2 ?_
            refine LW.on 102 rfl rfl ?_
            refine LW.pickT rfl rfl rfl ?_
            refine LW.pickF rfl rfl rfl ?_
            refine LW.assign rfl rfl ?_
            refine LW.nil ?_
            refine NW.then_ ?_
            refine CW.ret ?_
            refine NW.ret1 rfl rfl ⟨_, ⟨rfl, rfl⟩, ?_⟩
            exact Sub.nil _
        · refine LW.call (wal_Open_ok W B cp' cn cw cl 128 (d3.crash 128 keep) (ho3.crash keep) hg3 hc3) Tryd.func28 rfl FactsLawLogReset.fname28 ⟨rfl, trivial⟩ (by repeat (first | exact Take.head _ _ | apply Take.tail)) rfl ?_
          rintro _ _ ⟨l5, q5, v5, vs5, ch5, ar5, rfl, ho5, hr5, rfl⟩; obtain ⟨A5, cp5, rfl, hA5, hc5⟩ := OwnS.val ho5; refine LW.split2 (LW.split2p (LW.split3p (LW.split3p ?_)))
          refine LW.move rfl rfl ?_
          refine LW.extract rfl rfl rfl ?_
          refine LW.extract rfl rfl rfl ?_
          refine LW.extract rfl rfl rfl ?_
          refine LW.assign rfl rfl ?_
          refine LW.assign rfl rfl ?_
          refine LW.assign rfl rfl ?_
          refine LW.nil ?_
          refine NW.then_ ?_
          refine CW.seq ?_
          refine CW.seq ?_
          refine CW.region ?_
          refine LW.move rfl rfl ?_
          refine LW.neq false rfl rfl (bne_eq_false_iff_eq.2 (by omega)) rfl ?_
          refine LW.nil ?_
          refine NW.then_ ?_
          refine CW.cond_false rfl ?_
          refine CW.skip ?_
          refine NW.then_ ?_
          refine CW.seq ?_
          refine CW.region ?_
          refine LW.move rfl rfl ?_
          refine LW.call (wal_Area W B l5 q5 cp' (LogS.log ⟨g.serial + 1, area, length, []⟩)) Tryd.func31 rfl FactsLawLogReset.fname31 ⟨rfl, trivial⟩ (by repeat (first | exact Take.head _ _ | apply Take.tail)) rfl ?_
          rintro _ _ ⟨rfl, rfl⟩
          refine LW.move rfl rfl ?_
          refine LW.extract rfl rfl rfl ?_
          refine LW.extract rfl rfl rfl ?_
          refine LW.assign rfl rfl ?_
          refine LW.assign rfl rfl ?_
          refine LW.nil ?_
          refine NW.then_ ?_
          refine CW.seq ?_
          refine CW.region ?_
          refine LW.move rfl rfl ?_
          refine LW.move rfl rfl ?_
          refine LW.eql true rfl rfl (beq_iff_eq.2 rfl) rfl ?_
          refine LW.move rfl rfl ?_
          refine LW.on 91 rfl rfl ?_
          refine LW.move rfl rfl ?_
          refine LW.on 91 rfl rfl ?_
          refine LW.move rfl rfl ?_
          refine LW.on 91 rfl rfl ?_
          refine LW.eql true rfl rfl (beq_iff_eq.2 rfl) rfl ?_
          refine LW.pickT rfl rfl rfl ?_
          refine LW.move rfl rfl ?_
          refine LW.on 96 rfl rfl ?_
          refine LW.move rfl rfl ?_
          refine LW.on 96 rfl rfl ?_
          refine LW.lenSlice rfl Tryd.underlying36 rfl ?_
          refine LW.on 96 rfl rfl ?_
          refine LW.eql true rfl rfl (rfl) rfl ?_
          refine LW.pickT rfl rfl rfl ?_
          refine LW.assign rfl rfl ?_
          refine LW.nil ?_
          refine NW.then_ ?_
          refine CW.seq ?_
          refine CW.region ?_
          refine LW.move rfl rfl ?_
          refine LW.move rfl rfl ?_
          refine LW.off 102 rfl rfl rfl rfl ?_
          refine LW.off 102 rfl rfl rfl rfl ?_
          refine LW.off 102 rfl rfl rfl rfl ?_
          refine LW.offU 105 rfl rfl rfl ?_
          refine LW.offU 105 rfl rfl rfl ?_
          refine LW.off 102 rfl rfl rfl rfl ?_
          refine LW.off 102 rfl rfl rfl rfl ?_
          refine LW.offU 109 rfl rfl rfl ?_
          refine LW.offU 109 rfl rfl rfl ?_
          refine LW.off 102 rfl rfl rfl rfl ?_
          refine LW.off 102 rfl rfl rfl rfl ?_
          refine LW.offU 113 rfl rfl rfl ?_
          refine LW.offU 113 rfl rfl rfl ?_
          refine LW.offU 113 rfl rfl rfl ?_
          refine LW.off 102 rfl rfl rfl rfl ?_
          refine LW.pickT rfl rfl rfl ?_
          refine LW.assign rfl rfl ?_
          refine LW.nil ?_
          refine NW.then_ ?_
          refine CW.ret ?_
          refine NW.ret1 rfl rfl ⟨_, ⟨rfl, rfl⟩, ?_⟩
          exact Sub.nil _
end
end Go.Proofs.YtpnhonhjheahhaaDoor
