/-
  LogRounds, walked.
-/
import Derived.Test.YtpnhonhjheahhaaDoorHelp5
namespace Go.Proofs.YtpnhonhjheahhaaDoor
open Go.RowKit
namespace FactsLawLogRounds
theorem fname21 : (Tryd.f21.name == "runtime.NumGoroutine") = false := by kernel_rfl
theorem fname22 : (Tryd.f22.name == "runtime.NumGoroutine") = false := by kernel_rfl
theorem fname23 : (Tryd.f23.name == "runtime.NumGoroutine") = false := by kernel_rfl
theorem fname25 : (Tryd.f25.name == "runtime.NumGoroutine") = false := by kernel_rfl
theorem fname26 : (Tryd.f26.name == "runtime.NumGoroutine") = false := by kernel_rfl
theorem fname27 : (Tryd.f27.name == "runtime.NumGoroutine") = false := by kernel_rfl
theorem fname28 : (Tryd.f28.name == "runtime.NumGoroutine") = false := by kernel_rfl
theorem fname29 : (Tryd.f29.name == "runtime.NumGoroutine") = false := by kernel_rfl
theorem fname30 : (Tryd.f30.name == "runtime.NumGoroutine") = false := by kernel_rfl
theorem fname31 : (Tryd.f31.name == "runtime.NumGoroutine") = false := by kernel_rfl
theorem info31 : (Tryd.prog.info? 31).map (fun i => (i.zero, i.size, i.bytes)) = some (some (.slice none 0 0), 1, 24) := by kernel_rfl
end FactsLawLogRounds
section
variable (W : World) (B : Nat)
set_option maxHeartbeats 4000000 in
theorem law_LogRounds (h0 : 0 < B) (hg : W.cell? ⟨0, 0, none⟩ = some (rty 110)) (z1 z2 z3 : Int) (A : Option Addr) (cp : Nat) (keep : List Bool) (hsrc : Src W B [] A (keep.map .bool)) :
    Spec Tryd.prog W B 4 [.int .i64 z1, .int .i64 z2, .int .i64 z3, .slice A keep.length cp] [] (fun v post => v = .bool true ∧ post = []) := by
  obtain ⟨m, hm, hm2, hx1, hx2⟩ := mod_pos z1 20 (by decide) (by decide)
  obtain ⟨n, hn, hn2, hy1, hy2⟩ := mod_pos z2 6 (by decide) (by decide)
  obtain ⟨k, hk, hk2, hu1, hu2⟩ := mod_pos z3 250 (by decide) (by decide)
  have hr0 := Rest.zero (n := 64) (by omega) (by omega)
  have hs0 := zero_slot 64 (by omega)
  refine Spec.enter ([]) Tryd.func4 rfl Tryd.ntmps4 rfl (by first | rfl | simp) (fun w0 => ?_)
  refine CW.seq ?_
  refine CW.region ?_
  refine LW.assign rfl rfl ?_
  refine LW.nil ?_
  refine NW.then_ ?_
  refine CW.seq ?_
  refine CW.region ?_
  refine LW.call (law_begun4 W B h0 hg) Tryd.func21 rfl FactsLawLogRounds.fname21 trivial (Take.none _) rfl ?_
  rintro _ _ ⟨rfl, rfl⟩
  refine LW.assign rfl rfl ?_
  refine LW.nil ?_
  refine NW.then_ ?_
  refine CW.seq ?_
  refine CW.seq ?_
  refine CW.region ?_
  refine LW.move rfl rfl ?_
  refine LW.not (false) rfl (rfl) rfl ?_
  refine LW.nil ?_
  refine NW.then_ ?_
  refine CW.cond_false rfl ?_
  refine CW.skip ?_
  refine NW.then_ ?_
  refine CW.seq ?_
  refine CW.region ?_
  refine LW.move rfl rfl ?_
  refine LW.rem (z1.tmod 20) rfl rfl (by decide) (rfl) rfl ?_
  refine LW.add (z1.tmod 20 + 20) rfl rfl (by first | rfl | exact wr64 (by omega) (by omega) (by omega)) rfl ?_
  refine LW.rem ((m : Int)) rfl rfl (by decide) (hm) rfl ?_
  refine LW.add (((1 + m : Nat) : Int)) rfl rfl (by first | rfl | exact wr64 (by omega) (by omega) (by omega)) rfl ?_
  refine LW.move rfl rfl ?_
  refine LW.rem (z2.tmod 6) rfl rfl (by decide) (rfl) rfl ?_
  refine LW.add (z2.tmod 6 + 6) rfl rfl (by first | rfl | exact wr64 (by omega) (by omega) (by omega)) rfl ?_
  refine LW.rem ((n : Int)) rfl rfl (by decide) (hn) rfl ?_
  refine LW.move rfl rfl ?_
  refine LW.rem (z3.tmod 250) rfl rfl (by decide) (rfl) rfl ?_
  refine LW.add (z3.tmod 250 + 250) rfl rfl (by first | rfl | exact wr64 (by omega) (by omega) (by omega)) rfl ?_
  refine LW.rem ((k : Int)) rfl rfl (by decide) (hk) rfl ?_
  refine LW.add (((1 + k : Nat) : Int)) rfl rfl (by first | rfl | exact wr64 (by omega) (by omega) (by omega)) rfl ?_
  refine LW.assign rfl rfl ?_
  refine LW.assign rfl rfl ?_
  refine LW.assign rfl rfl ?_
  refine LW.nil ?_
  refine NW.then_ ?_
  refine CW.seq ?_
  generalize hmm : 1 + m = M
  generalize hkm : 1 + k = z
  have hrn : ringN 64 = 1920 := rfl
  have htl : ∀ x, okRec (textB z x) := fun x => ⟨by rw [textB_len]; omega, by rw [textB_len]; omega⟩
  refine CW.region ?_
  refine LW.call (dev_New W B 64 (by omega) (by omega)) Tryd.func23 rfl FactsLawLogRounds.fname23 ⟨rfl, trivial⟩ (Take.none _) rfl ?_
  rintro _ _ ⟨p, bn, bw, bl, rfl, rfl⟩
  refine LW.assign rfl rfl ?_
  refine LW.nil ?_
  refine NW.then_ ?_
  refine CW.seq ?_
  generalize DevS.zero 64 = d0 at hr0 hs0 ⊢
  refine CW.region ?_
  refine LW.move rfl rfl ?_
  refine LW.call (wal_Make_ok W B p bn bw bl 64 d0 hr0.ok hr0.up (hold_slot hr0.flat (by omega) hs0) (by decide)) Tryd.func22 rfl FactsLawLogRounds.fname22 ⟨rfl, trivial⟩ (by repeat (first | exact Take.head _ _ | apply Take.tail)) rfl ?_
  rintro _ _ ⟨l, q, d1, rfl, hr1, hf1, hl1, _, rfl⟩; refine LW.split2 ?_
  refine LW.move rfl rfl ?_
  refine LW.extract rfl rfl rfl ?_
  refine LW.extract rfl rfl rfl ?_
  refine LW.assign rfl rfl ?_
  refine LW.assign rfl rfl ?_
  refine LW.nil ?_
  refine NW.then_ ?_
  refine CW.seq ?_
  refine CW.seq ?_
  refine CW.region ?_
  refine LW.move rfl rfl ?_
  refine LW.neq false rfl rfl (bne_eq_false_iff_eq.2 (by omega)) rfl ?_
  refine LW.nil ?_
  refine NW.then_ ?_
  refine CW.cond_false rfl ?_
  refine CW.skip ?_
  refine NW.then_ ?_
  refine CW.seq ?_
  refine CW.seq ?_
  refine CW.region ?_
  refine LW.assign rfl rfl ?_
  refine LW.nil ?_
  refine NW.then_ ?_
  refine CW.block ?_
  refine CW.loop (fun st : Nat × LogS × DevS => [(13, .int .i64 (st.1 : Int)), (11, .pointer (some ⟨l, 0, none⟩)), (10, .pointer (some ⟨p, 0, none⟩)), (0, .int .i64 (M : Int)), (1, .int .i64 (n : Int)), (2, .int .i64 (z : Int)), (3, .slice A keep.length cp)]) (fun st => [logC l q p st.2.1.log, devC p bn bw bl 64 st.2.2]) (fun st => st.1 ≤ M ∧ Rest 64 st.2.2 ∧ st.2.1.Fine 64 ∧ LogAt st.2.2.N st.2.1 ∧ st.2.1.serial ≤ 1 + 10 * (st.1 : Int) ∧ st.2.1.recs = []) (fun st => M - st.1) (0, ⟨0 + 1, 0, 0, []⟩, d1) ?st10_j ?st10_e ?st10_h ?st10_r
  case st10_j => exact ⟨Nat.zero_le _, hr1, hf1, hl1, by dsimp only; omega, rfl⟩
  case st10_e => repeat (first | exact Env.Le.nil _ | refine Env.Le.cons rfl ?_)
  case st10_h => repeat (first | exact Sub.heap_nil _ | exact Sub.refl _ | refine Sub.heap_cons (Take.none _) ?_ | refine Sub.heap_cons (by repeat (first | exact Take.head _ _ | apply Take.tail)) ?_)
  case st10_r =>
    rintro ⟨r, ⟨sr, ar, le, rs⟩, d⟩ ⟨hrM, hr, hf, hl, hse, hrs⟩; dsimp only at hrM hr hf hl hse hrs; subst hrs
    try dsimp only
    refine CW.seq ?_
    refine CW.seq ?_
    refine CW.region ?_
    refine LW.move rfl rfl ?_
    refine LW.move rfl rfl ?_
    refine LW.lss (decide ((r : Int) < (M : Int))) rfl rfl (rfl) rfl ?_
    refine LW.nil ?_
    refine NW.then_ ?_
    refine CW.cond rfl (fun hc50 => ?_) (fun hc50 => ?_)
    · replace hc50 := of_decide_eq_true hc50
      try dsimp only at hc50
      have hrm : r < M := by omega
      refine CW.skip ?_
      refine NW.then_ ?_
      refine CW.seq ?_
      refine CW.block ?_
      refine CW.seq ?_
      refine CW.region ?_
      refine LW.assign rfl rfl ?_
      refine LW.nil ?_
      refine NW.then_ ?_
      refine CW.seq ?_
      refine CW.seq ?_
      refine CW.region ?_
      refine LW.assign rfl rfl ?_
      refine LW.nil ?_
      refine NW.then_ ?_
      refine CW.block ?_
      refine CW.loop (fun st : Nat × LogS × DevS × Value × List Value × List Row × List Row => [(15, .int .i64 (st.1 : Int)), (14, st.2.2.2.1), (13, .int .i64 (r : Int)), (11, .pointer (some ⟨l, 0, none⟩)), (10, .pointer (some ⟨p, 0, none⟩)), (0, .int .i64 (M : Int)), (1, .int .i64 (n : Int)), (2, .int .i64 (z : Int)), (3, .slice A keep.length cp)]) (fun st => [logC l q p st.2.1.log, devC p bn bw bl 64 st.2.2.1, st.2.2.2.2.2.1, st.2.2.2.2.2.2]) (fun st => st.1 ≤ n ∧ Rest 64 st.2.2.1 ∧ st.2.1.Fine 64 ∧ LogAt st.2.2.1.N st.2.1 ∧ st.2.1.serial = sr + (st.1 : Int) ∧ st.2.1.recs.length = st.1 ∧ st.2.1.used = st.1 * (z + 2) ∧ OwnS 31 1 st.2.2.2.1 st.2.1.recs.length st.2.2.2.2.1 st.2.2.2.2.2.1 ∧ RecsAt W B st.2.2.2.2.2.2 st.2.2.2.2.1 st.2.1.recs) (fun st => n - st.1) (0, ⟨sr, ar, le, []⟩, d, .slice none 0 0, [], [], []) ?st14_j ?st14_e ?st14_h ?st14_r
      case st14_j => exact ⟨Nat.zero_le _, hr, hf, hl, by dsimp only; omega, rfl, by dsimp only; rw [used_nil, Nat.zero_mul], OwnS.nil, RecsAt.nil⟩
      case st14_e => repeat (first | exact Env.Le.nil _ | refine Env.Le.cons rfl ?_)
      case st14_h => repeat (first | exact Sub.heap_nil _ | exact Sub.refl _ | refine Sub.heap_cons (Take.none _) ?_ | refine Sub.heap_cons (by repeat (first | exact Take.head _ _ | apply Take.tail)) ?_)
      case st14_r =>
        rintro ⟨i, g, e, v, vs, ch, rr⟩ ⟨hin, her, hef, hel, hes, hlen, hus, ho, hra⟩; dsimp only at hin her hef hel hes hlen hus ho hra
        try dsimp only
        refine CW.seq ?_
        refine CW.seq ?_
        refine CW.region ?_
        refine LW.move rfl rfl ?_
        refine LW.move rfl rfl ?_
        refine LW.lss (decide ((i : Int) < (n : Int))) rfl rfl (rfl) rfl ?_
        refine LW.nil ?_
        refine NW.then_ ?_
        refine CW.cond rfl (fun hc55 => ?_) (fun hc55 => ?_)
        · replace hc55 := of_decide_eq_true hc55
          try dsimp only at hc55
          have hin' : i < n := by omega
          have hmul : i * (z + 2) ≤ 5 * (z + 2) := Nat.mul_le_mul_right _ (by omega)
          refine CW.skip ?_
          refine NW.then_ ?_
          refine CW.seq ?_
          refine CW.block ?_
          refine CW.seq ?_
          refine CW.region ?_
          refine LW.move rfl rfl ?_
          refine LW.move rfl rfl ?_
          refine LW.mul (((r * 7 : Nat) : Int)) rfl rfl (by first | rfl | exact wr64 (by omega) (by omega) (by omega)) rfl ?_
          refine LW.move rfl rfl ?_
          refine LW.add (((r * 7 + i : Nat) : Int)) rfl rfl (by first | rfl | exact wr64 (by omega) (by omega) (by omega)) rfl ?_
          refine LW.convInt (((UInt8.ofNat (r * 7 + i)).toNat : Int)) rfl Tryd.underlying3 Tryd.underlying5 (u8_conv _) rfl ?_
          refine LW.call (law_text' W B z (by omega) (UInt8.ofNat (r * 7 + i))) Tryd.func26 rfl FactsLawLogRounds.fname26 ⟨rfl, rfl, trivial⟩ (Take.none _) rfl ?_
          rintro _ _ ⟨b1, rfl, rfl⟩
          refine LW.assign rfl rfl ?_
          refine LW.nil ?_
          refine NW.then_ ?_
          refine CW.seq ?_
          refine CW.seq ?_
          generalize UInt8.ofNat (r * 7 + i) = y
          refine CW.region ?_
          refine LW.move rfl rfl ?_
          refine LW.move rfl rfl ?_
          refine LW.call (wal_Append_ok W B l q p bn bw bl 64 e her hef hel (by omega) (textB z y) (htl _) (by rw [textB_len]; omega) [cr b1 5 ((textB z y).map u8v)] (some ⟨b1, 0, none⟩) (textB z y).length (srcText W B _ _)) Tryd.func25 rfl FactsLawLogRounds.fname25 ⟨rfl, rfl, trivial⟩ (Take.both (by repeat (first | exact Take.head _ _ | apply Take.tail)) (Take.both (by repeat (first | exact Take.head _ _ | apply Take.tail)) (by repeat (first | exact Take.head _ _ | apply Take.tail)))) rfl ?_
          rintro _ _ ⟨rfl, e2, her2, hef2, hel2, _, rfl⟩; refine LW.split2 (LW.split2p ?_)
          refine LW.neq false rfl rfl (bne_eq_false_iff_eq.2 (by omega)) rfl ?_
          refine LW.nil ?_
          refine NW.then_ ?_
          refine CW.cond_false rfl ?_
          refine CW.skip ?_
          refine NW.then_ ?_
          refine CW.region ?_
          refine LW.move rfl rfl ?_
          refine LW.move rfl rfl ?_
          refine LW.buildSlice (vs := [_]) ⟨rfl, trivial⟩ rfl (by intro v hv; simp at hv; subst hv; rfl) Tryd.underlying36 FactsLawLogRounds.info31 rfl (by decide) (by decide) rfl ?_
          intro bs71
          refine LW.append ([.slice (some ⟨b1, 0, none⟩) (textB z y).length (textB z y).length]) rfl rfl Tryd.underlying36 Tryd.underlying36 (.inr ⟨_, rfl⟩) FactsLawLogRounds.info31 rfl (ho) (by repeat (first | exact Take.head _ _ | apply Take.tail)) (fun _ => lenOf_slice _ _ _ _) (first_rd (RdAt.row (by repeat (first | exact Take.head _ _ | apply Take.tail)) (fun j v hj => by rw [Nat.zero_add]; exact hj)) rfl (fun h => (by cases h))) (rfl) (by intro u hu; simp at hu; subst hu; rfl) (by omega) (by omega) rfl ?_
          intro v6 ch6 ho6
          refine LW.assign rfl rfl ?_
          refine LW.nil ?_
          refine NW.block ?_
          refine NW.then_ ?_
          refine CW.region ?_
          refine LW.move rfl rfl ?_
          refine LW.add ((i + 1 : Int)) rfl rfl (by first | rfl | exact wr64 (by omega) (by omega) (by omega)) rfl ?_
          refine LW.assign rfl rfl ?_
          refine LW.nil ?_
          refine NW.meet ((i + 1, ⟨g.serial + 1, g.area, g.length, g.recs ++ [textB z y]⟩, e2, v6, vs ++ [.slice (some ⟨b1, 0, none⟩) (textB z y).length (textB z y).length], ch6, [cr b1 5 ((textB z y).map u8v)] ++ rr)) ?j1 ?e1 ?h1
          case j1 => exact ⟨⟨by dsimp only; omega, her2, hef2, hel2, by dsimp only; omega, by dsimp only; rw [List.length_append, hlen]; rfl, by dsimp only; rw [used_app, show LogS.used ⟨g.serial + 1, g.area, g.length, g.recs⟩ = g.used from rfl, hus, textB_len, Nat.add_mul]; omega, by rw [List.length_append]; exact ho6, (hra.more (fun x hx => List.mem_append_right _ hx)).app ((RecAt.own (OwnB.text b1 (textB z y))).more (fun x hx => List.mem_append_left _ hx))⟩, by dsimp only; omega⟩
          case e1 => repeat (first | exact Env.Le.nil _ | refine Env.Le.cons rfl ?_)
          case h1 => exact Sub.heap_cons (by repeat (first | exact Take.head _ _ | apply Take.tail)) (Sub.heap_cons (by repeat (first | exact Take.head _ _ | apply Take.tail)) (Sub.heap_cons (by repeat (first | exact Take.head _ _ | apply Take.tail)) (Sub.heap_cons (Take.both (by repeat (first | exact Take.head _ _ | apply Take.tail)) (by repeat (first | exact Take.head _ _ | apply Take.tail))) (Sub.heap_nil _))))
        · replace hc55 := of_decide_eq_false hc55
          try dsimp only at hc55
          refine CW.exit ?_
          refine NW.then_exit ?_
          refine NW.then_exit ?_
          refine NW.block_exit ?_
          refine NW.then_ ?_
          refine CW.seq ?_
          refine CW.region ?_
          refine LW.move rfl rfl ?_
          refine LW.move rfl rfl ?_
          refine LW.call (dev_Crash W B p bn bw bl 64 e her.ok [] A cp keep hsrc) Tryd.func29 rfl FactsLawLogRounds.fname29 ⟨rfl, rfl, trivial⟩ (Take.both (Take.none _) (by repeat (first | exact Take.head _ _ | apply Take.tail))) rfl ?_
          rintro _ _ ⟨cp', cn, cw, cl, rfl, rfl⟩; refine LW.split2 (LW.split2p ?_)
          have hrc := Rest.crash her.ok keep
          have hlc := crash_log her.ok her.flat hef hel keep
          generalize e.crash 64 keep = dc at hrc hlc ⊢
          refine LW.call (wal_Open_ok W B cp' cn cw cl 64 dc hrc.ok hef hlc) Tryd.func28 rfl FactsLawLogRounds.fname28 ⟨rfl, trivial⟩ (by repeat (first | exact Take.head _ _ | apply Take.tail)) rfl ?_
          rintro _ _ ⟨l5, q5, v5, vs5, ch5, ar5, rfl, ho5, hr5, rfl⟩; obtain ⟨A5, cp5, rfl, hA5, hc5⟩ := OwnS.val ho5; refine LW.split2 (LW.split2p ?_)
          refine LW.move rfl rfl ?_
          refine LW.extract rfl rfl rfl ?_
          refine LW.extract rfl rfl rfl ?_
          refine LW.extract rfl rfl rfl ?_
          refine LW.assign rfl rfl ?_
          refine LW.assign rfl rfl ?_
          refine LW.assign rfl rfl ?_
          refine LW.nil ?_
          refine NW.then_ ?_
          refine CW.seq ?_
          refine CW.seq ?_
          obtain ⟨Aw, cpw, rfl, hAw, hcw⟩ := OwnS.val ho
          refine CW.region ?_
          refine LW.move rfl rfl ?_
          refine LW.neq false rfl rfl (bne_eq_false_iff_eq.2 (by omega)) rfl ?_
          refine LW.move rfl rfl ?_
          refine LW.on 83 rfl rfl ?_
          refine LW.move rfl rfl ?_
          refine LW.on 83 rfl rfl ?_
          refine LW.move rfl rfl ?_
          refine LW.on 83 rfl rfl ?_
          refine LW.call (law_records_eq W B (ch5 ++ (ar5 ++ (ch ++ rr))) A5 Aw cp5 cpw g.recs.length g.recs.length g.recs rfl rfl vs5 vs (Src.left W B ho5.src) (hr5.more (fun x hx => by simp [hx])) (Src.right W B (Src.right W B (Src.left W B ho.src))) (hra.more (fun x hx => by simp [hx])) (by omega)) Tryd.func30 rfl FactsLawLogRounds.fname30 ⟨rfl, rfl, trivial⟩ (Take.both (by repeat (first | exact Take.head _ _ | apply Take.tail)) (Take.both (by repeat (first | exact Take.head _ _ | apply Take.tail)) (Take.both (by repeat (first | exact Take.head _ _ | apply Take.tail)) (by repeat (first | exact Take.head _ _ | apply Take.tail))))) rfl ?_
          rintro _ _ ⟨rfl, rfl⟩; refine LW.split2 ?_
          refine LW.on 83 rfl rfl ?_
          refine LW.not _ rfl rfl rfl ?_
          refine LW.pickF rfl rfl rfl ?_
          refine LW.move rfl rfl ?_
          refine LW.on 89 rfl rfl ?_
          refine LW.move rfl rfl ?_
          refine LW.on 89 rfl rfl ?_
          refine LW.move rfl rfl ?_
          refine LW.on 89 rfl rfl ?_
          refine LW.move rfl rfl ?_
          refine LW.on 89 rfl rfl ?_
          refine LW.add (((r + 1 : Nat) : Int)) rfl rfl (by first | rfl | exact wr64 (by omega) (by omega) (by omega)) rfl ?_
          refine LW.on 89 rfl rfl ?_
          refine LW.call (wal_Reset_ok W B l q p bn bw bl 64 e her hef hel (by omega) (r : Int) ((r + 1 : Nat) : Int) ⟨by omega, by omega⟩ ⟨by omega, by omega⟩) Tryd.func27 rfl FactsLawLogRounds.fname27 ⟨rfl, rfl, rfl, trivial⟩ (Take.both (by repeat (first | exact Take.head _ _ | apply Take.tail)) (by repeat (first | exact Take.head _ _ | apply Take.tail))) rfl ?_
          rintro _ _ ⟨rfl, d6, hr6, hf6, hl6, _, rfl⟩; refine LW.split2 ?_
          refine LW.on 89 rfl rfl ?_
          refine LW.neq false rfl rfl (bne_eq_false_iff_eq.2 (by omega)) rfl ?_
          refine LW.pickF rfl rfl rfl ?_
          refine LW.nil ?_
          refine NW.then_ ?_
          refine CW.cond_false rfl ?_
          refine CW.skip ?_
          refine NW.then_ ?_
          refine CW.seq ?_
          refine CW.region ?_
          refine LW.move rfl rfl ?_
          refine LW.move rfl rfl ?_
          refine LW.call (dev_Crash W B p bn bw bl 64 d6 hr6.ok [] A cp keep hsrc) Tryd.func29 rfl FactsLawLogRounds.fname29 ⟨rfl, rfl, trivial⟩ (Take.both (Take.none _) (by repeat (first | exact Take.head _ _ | apply Take.tail))) rfl ?_
          rintro _ _ ⟨gp, gn, gw, gl, rfl, rfl⟩; refine LW.split2 (LW.split2p ?_)
          have hrg := Rest.crash hr6.ok keep
          have hlg := crash_log hr6.ok hr6.flat hf6 hl6 keep
          generalize d6.crash 64 keep = dg at hrg hlg ⊢
          refine LW.call (wal_Open_ok W B gp gn gw gl 64 dg hrg.ok hf6 hlg) Tryd.func28 rfl FactsLawLogRounds.fname28 ⟨rfl, trivial⟩ (by repeat (first | exact Take.head _ _ | apply Take.tail)) rfl ?_
          rintro _ _ ⟨l7, q7, v7, vs7, ch7, ar7, rfl, ho7, hr7, rfl⟩; obtain ⟨A7, cp7, rfl, hA7, hc7⟩ := OwnS.val ho7; refine LW.split2 (LW.split2p (LW.split3p (LW.split3p ?_)))
          refine LW.move rfl rfl ?_
          refine LW.extract rfl rfl rfl ?_
          refine LW.extract rfl rfl rfl ?_
          refine LW.extract rfl rfl rfl ?_
          refine LW.assign rfl rfl ?_
          refine LW.assign rfl rfl ?_
          refine LW.assign rfl rfl ?_
          refine LW.nil ?_
          refine NW.then_ ?_
          refine CW.seq ?_
          refine CW.seq ?_
          refine CW.region ?_
          refine LW.move rfl rfl ?_
          refine LW.neq false rfl rfl (bne_eq_false_iff_eq.2 (by omega)) rfl ?_
          refine LW.move rfl rfl ?_
          refine LW.on 107 rfl rfl ?_
          refine LW.move rfl rfl ?_
          refine LW.on 107 rfl rfl ?_
          refine LW.lenSlice rfl Tryd.underlying36 rfl ?_
          refine LW.on 107 rfl rfl ?_
          refine LW.neq false rfl rfl (rfl) rfl ?_
          refine LW.pickF rfl rfl rfl ?_
          refine LW.nil ?_
          refine NW.then_ ?_
          refine CW.cond_false rfl ?_
          refine CW.skip ?_
          refine NW.then_ ?_
          refine CW.seq ?_
          refine CW.region ?_
          refine LW.move rfl rfl ?_
          refine LW.call (wal_Area W B l7 q7 gp (LogS.log ⟨g.serial + 1, (r : Int), ((r + 1 : Nat) : Int), []⟩)) Tryd.func31 rfl FactsLawLogRounds.fname31 ⟨rfl, trivial⟩ (by repeat (first | exact Take.head _ _ | apply Take.tail)) rfl ?_
          rintro _ _ ⟨rfl, rfl⟩
          refine LW.move rfl rfl ?_
          refine LW.extract rfl rfl rfl ?_
          refine LW.extract rfl rfl rfl ?_
          refine LW.assign rfl rfl ?_
          refine LW.assign rfl rfl ?_
          refine LW.nil ?_
          refine NW.then_ ?_
          refine CW.seq ?_
          refine CW.region ?_
          refine LW.move rfl rfl ?_
          refine LW.move rfl rfl ?_
          refine LW.neq false rfl rfl (bne_eq_false_iff_eq.2 rfl) rfl ?_
          refine LW.move rfl rfl ?_
          refine LW.on 120 rfl rfl ?_
          refine LW.move rfl rfl ?_
          refine LW.on 120 rfl rfl ?_
          refine LW.move rfl rfl ?_
          refine LW.on 120 rfl rfl ?_
          refine LW.add (((r + 1 : Nat) : Int)) rfl rfl (by first | rfl | exact wr64 (by omega) (by omega) (by omega)) rfl ?_
          refine LW.on 120 rfl rfl ?_
          refine LW.neq false rfl rfl (bne_eq_false_iff_eq.2 rfl) rfl ?_
          refine LW.pickF rfl rfl rfl ?_
          refine LW.nil ?_
          refine NW.then_ ?_
          refine CW.cond_false rfl ?_
          refine CW.skip ?_
          refine NW.block ?_
          refine NW.then_ ?_
          refine CW.region ?_
          refine LW.move rfl rfl ?_
          refine LW.add ((r + 1 : Int)) rfl rfl (by first | rfl | exact wr64 (by omega) (by omega) (by omega)) rfl ?_
          refine LW.assign rfl rfl ?_
          refine LW.nil ?_
          refine NW.meet ((r + 1, ⟨g.serial + 1, (r : Int), ((r + 1 : Nat) : Int), []⟩, d6)) ?j2 ?e2 ?h2
          case j2 => exact ⟨⟨by dsimp only; omega, hr6, hf6, hl6, by dsimp only; omega, rfl⟩, by dsimp only; omega⟩
          case e2 => repeat (first | exact Env.Le.nil _ | refine Env.Le.cons rfl ?_)
          case h2 => repeat (first | exact Sub.heap_nil _ | exact Sub.refl _ | refine Sub.heap_cons (Take.none _) ?_ | refine Sub.heap_cons (by repeat (first | exact Take.head _ _ | apply Take.tail)) ?_)
    · replace hc50 := of_decide_eq_false hc50
      try dsimp only at hc50
      refine CW.exit ?_
      refine NW.then_exit ?_
      refine NW.then_exit ?_
      refine NW.block_exit ?_
      refine NW.then_ ?_
      refine CW.seq ?_
      refine CW.region ?_
      refine LW.assign rfl rfl ?_
      refine LW.nil ?_
      refine NW.then_ ?_
      refine CW.ret ?_
      refine NW.ret1 rfl rfl ⟨_, ⟨rfl, rfl⟩, ?_⟩
      exact Sub.nil _
end
end Go.Proofs.YtpnhonhjheahhaaDoor
