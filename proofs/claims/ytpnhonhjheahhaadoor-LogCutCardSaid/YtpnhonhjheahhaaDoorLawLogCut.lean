/-
  LogCut, walked.
-/
import Derived.Test.YtpnhonhjheahhaaDoorFuz5
namespace Go.Proofs.YtpnhonhjheahhaaDoor
open Go.RowKit
namespace FactsLawLogCut
theorem fname21 : (Tryd.f21.name == "runtime.NumGoroutine") = false := by kernel_rfl
theorem fname22 : (Tryd.f22.name == "runtime.NumGoroutine") = false := by kernel_rfl
theorem fname23 : (Tryd.f23.name == "runtime.NumGoroutine") = false := by kernel_rfl
theorem fname25 : (Tryd.f25.name == "runtime.NumGoroutine") = false := by kernel_rfl
theorem fname26 : (Tryd.f26.name == "runtime.NumGoroutine") = false := by kernel_rfl
theorem fname28 : (Tryd.f28.name == "runtime.NumGoroutine") = false := by kernel_rfl
theorem fname29 : (Tryd.f29.name == "runtime.NumGoroutine") = false := by kernel_rfl
theorem fname30 : (Tryd.f30.name == "runtime.NumGoroutine") = false := by kernel_rfl
theorem fname41 : (Tryd.f41.name == "runtime.NumGoroutine") = false := by kernel_rfl
theorem info31 : (Tryd.prog.info? 31).map (fun i => (i.zero, i.size, i.bytes)) = some (some (.slice none 0 0), 1, 24) := by kernel_rfl
end FactsLawLogCut
section
variable (W : World) (B : Nat)
set_option maxHeartbeats 4000000 in
theorem law_LogCut (h0 : 0 < B) (hg : W.cell? ⟨0, 0, none⟩ = some (rty 110)) (z1 z2 z3 : Int) (A : Option Addr) (cp : Nat) (keep : List Bool) (hsrc : Src W B [] A (keep.map .bool)) :
    Spec Tryd.prog W B 17 [.int .i64 z1, .int .i64 z2, .int .i64 z3, .slice A keep.length cp] [] (fun v post => v = .bool true ∧ post = []) := by
  obtain ⟨n, hn, hn2, hy1, hy2⟩ := mod_pos z1 8 (by decide) (by decide)
  obtain ⟨k, hk, hk2, hu1, hu2⟩ := mod_pos z2 200 (by decide) (by decide)
  obtain ⟨m, hm, hm2, hx1, hx2⟩ := mod_pos z3 8 (by decide) (by decide)
  have hr0 := Rest.zero (n := 128) (by omega) (by omega)
  have hs0 := zero_slot 128 (by omega)
  refine Spec.enter ([]) Tryd.func17 rfl Tryd.ntmps17 rfl (by first | rfl | simp) (fun w0 => ?_)
  refine CW.seq ?_
  refine CW.region ?_
  refine LW.assign rfl rfl ?_
  refine LW.nil ?_
  refine NW.then_ ?_
  refine CW.seq ?_
  refine CW.region ?_
  refine LW.call (law_begun4 W B h0 hg) Tryd.func21 rfl FactsLawLogCut.fname21 trivial (Take.none _) rfl ?_
  rintro _ _ ⟨rfl, rfl⟩
  refine LW.assign rfl rfl ?_
  refine LW.nil ?_
  refine NW.then_ ?_
  refine CW.seq ?_
  refine CW.seq ?_
  refine CW.region ?_
  refine LW.move rfl rfl ?_
  refine LW.not (false) rfl (rfl) rfl ?_
  refine LW.nil ?_
  refine NW.then_ ?_
  refine CW.cond_false rfl ?_
  refine CW.skip ?_
  refine NW.then_ ?_
  refine CW.seq ?_
  refine CW.region ?_
  refine LW.move rfl rfl ?_
  refine LW.rem (z1.tmod 8) rfl rfl (by decide) (rfl) rfl ?_
  refine LW.add (z1.tmod 8 + 8) rfl rfl (by first | rfl | exact wr64 (by omega) (by omega) (by omega)) rfl ?_
  refine LW.rem ((n : Int)) rfl rfl (by decide) (hn) rfl ?_
  refine LW.move rfl rfl ?_
  refine LW.rem (z2.tmod 200) rfl rfl (by decide) (rfl) rfl ?_
  refine LW.add (z2.tmod 200 + 200) rfl rfl (by first | rfl | exact wr64 (by omega) (by omega) (by omega)) rfl ?_
  refine LW.rem ((k : Int)) rfl rfl (by decide) (hk) rfl ?_
  refine LW.add (((1 + k : Nat) : Int)) rfl rfl (by first | rfl | exact wr64 (by omega) (by omega) (by omega)) rfl ?_
  refine LW.assign rfl rfl ?_
  refine LW.assign rfl rfl ?_
  refine LW.nil ?_
  refine NW.then_ ?_
  refine CW.seq ?_
  generalize hkm : 1 + k = z
  have hrn : ringN 128 = 3968 := rfl
  have htl : ∀ x, okRec (textB z x) := fun x => ⟨by rw [textB_len]; omega, by rw [textB_len]; omega⟩
  refine CW.region ?_
  refine LW.call (dev_New W B 128 (by omega) (by omega)) Tryd.func23 rfl FactsLawLogCut.fname23 ⟨rfl, trivial⟩ (Take.none _) rfl ?_
  rintro _ _ ⟨p, bn, bw, bl, rfl, rfl⟩
  refine LW.assign rfl rfl ?_
  refine LW.nil ?_
  refine NW.then_ ?_
  refine CW.seq ?_
  generalize DevS.zero 128 = d0 at hr0 hs0 ⊢
  refine CW.region ?_
  refine LW.move rfl rfl ?_
  refine LW.call (wal_Make_ok W B p bn bw bl 128 d0 hr0.ok hr0.up (hold_slot hr0.flat (by omega) hs0) (by decide)) Tryd.func22 rfl FactsLawLogCut.fname22 ⟨rfl, trivial⟩ (by repeat (first | exact Take.head _ _ | apply Take.tail)) rfl ?_
  rintro _ _ ⟨l, q, d1, rfl, hr1, hf1, hl1, _, rfl⟩; refine LW.split2 ?_
  refine LW.move rfl rfl ?_
  refine LW.extract rfl rfl rfl ?_
  refine LW.extract rfl rfl rfl ?_
  refine LW.assign rfl rfl ?_
  refine LW.assign rfl rfl ?_
  refine LW.nil ?_
  refine NW.then_ ?_
  refine CW.seq ?_
  refine CW.seq ?_
  refine CW.region ?_
  refine LW.move rfl rfl ?_
  refine LW.neq false rfl rfl (bne_eq_false_iff_eq.2 (by omega)) rfl ?_
  refine LW.nil ?_
  refine NW.then_ ?_
  refine CW.cond_false rfl ?_
  refine CW.skip ?_
  refine NW.then_ ?_
  refine CW.seq ?_
  refine CW.region ?_
  refine LW.assign rfl rfl ?_
  refine LW.nil ?_
  refine NW.then_ ?_
  refine CW.seq ?_
  refine CW.seq ?_
  refine CW.region ?_
  refine LW.assign rfl rfl ?_
  refine LW.nil ?_
  refine NW.then_ ?_
  refine CW.block ?_
  refine CW.loop (fun st : Nat × LogS × DevS × Value × List Value × List Row × List Row => [(14, .int .i64 (st.1 : Int)), (13, st.2.2.2.1), (11, .pointer (some ⟨l, 0, none⟩)), (10, .pointer (some ⟨p, 0, none⟩)), (0, .int .i64 (n : Int)), (1, .int .i64 (z : Int)), (2, .int .i64 z3), (3, .slice A keep.length cp)]) (fun st => [logC l q p st.2.1.log, devC p bn bw bl 128 st.2.2.1, st.2.2.2.2.2.1, st.2.2.2.2.2.2]) (fun st => st.1 ≤ n ∧ Rest 128 st.2.2.1 ∧ st.2.1.Fine 128 ∧ LogAt st.2.2.1.N st.2.1 ∧ st.2.1.serial = 1 + (st.1 : Int) ∧ st.2.1.recs.length = st.1 ∧ st.2.1.used = st.1 * (z + 2) ∧ OwnS 31 1 st.2.2.2.1 st.2.1.recs.length st.2.2.2.2.1 st.2.2.2.2.2.1 ∧ RecsAt W B st.2.2.2.2.2.2 st.2.2.2.2.1 st.2.1.recs) (fun st => n - st.1) (0, ⟨0 + 1, 0, 0, []⟩, d1, .slice none 0 0, [], [], []) ?st11_j ?st11_e ?st11_h ?st11_r
  case st11_j => exact ⟨Nat.zero_le _, hr1, hf1, hl1, by dsimp only; omega, rfl, by dsimp only; rw [used_nil, Nat.zero_mul], OwnS.nil, RecsAt.nil⟩
  case st11_e => repeat (first | exact Env.Le.nil _ | refine Env.Le.cons rfl ?_)
  case st11_h => repeat (first | exact Sub.heap_nil _ | exact Sub.refl _ | refine Sub.heap_cons (Take.none _) ?_ | refine Sub.heap_cons (by repeat (first | exact Take.head _ _ | apply Take.tail)) ?_)
  case st11_r =>
    clear hr1 hf1 hl1; rintro ⟨i, g, e, v, vs, ch, rr⟩ ⟨hin, her, hef, hel, hes, hlen, hus, ho, hra⟩; dsimp only at hin her hef hel hes hlen hus ho hra
    try dsimp only
    refine CW.seq ?_
    refine CW.seq ?_
    refine CW.region ?_
    refine LW.move rfl rfl ?_
    refine LW.move rfl rfl ?_
    refine LW.lss (decide ((i : Int) < (n : Int))) rfl rfl (rfl) rfl ?_
    refine LW.nil ?_
    refine NW.then_ ?_
    refine CW.cond rfl (fun hc44 => ?_) (fun hc44 => ?_)
    · replace hc44 := of_decide_eq_true hc44
      try dsimp only at hc44
      have hin' : i < n := by omega
      have hmul : i * (z + 2) ≤ 7 * (z + 2) := Nat.mul_le_mul_right _ (by omega)
      refine CW.skip ?_
      refine NW.then_ ?_
      refine CW.seq ?_
      refine CW.block ?_
      refine CW.seq ?_
      refine CW.region ?_
      refine LW.move rfl rfl ?_
      refine LW.move rfl rfl ?_
      refine LW.convInt (((UInt8.ofNat i).toNat : Int)) rfl Tryd.underlying3 Tryd.underlying5 (u8_conv _) rfl ?_
      refine LW.call (law_text' W B z (by omega) (UInt8.ofNat i)) Tryd.func26 rfl FactsLawLogCut.fname26 ⟨rfl, rfl, trivial⟩ (Take.none _) rfl ?_
      rintro _ _ ⟨b1, rfl, rfl⟩
      refine LW.assign rfl rfl ?_
      refine LW.nil ?_
      refine NW.then_ ?_
      refine CW.seq ?_
      refine CW.seq ?_
      generalize UInt8.ofNat i = y
      refine CW.region ?_
      refine LW.move rfl rfl ?_
      refine LW.move rfl rfl ?_
      refine LW.call (wal_Append_ok W B l q p bn bw bl 128 e her hef hel (by omega) (textB z y) (htl _) (by rw [textB_len]; omega) [cr b1 5 ((textB z y).map u8v)] (some ⟨b1, 0, none⟩) (textB z y).length (srcText W B _ _)) Tryd.func25 rfl FactsLawLogCut.fname25 ⟨rfl, rfl, trivial⟩ (Take.both (by repeat (first | exact Take.head _ _ | apply Take.tail)) (Take.both (by repeat (first | exact Take.head _ _ | apply Take.tail)) (by repeat (first | exact Take.head _ _ | apply Take.tail)))) rfl ?_
      rintro _ _ ⟨rfl, e2, her2, hef2, hel2, _, rfl⟩; refine LW.split2 (LW.split2p ?_)
      refine LW.neq false rfl rfl (bne_eq_false_iff_eq.2 (by omega)) rfl ?_
      refine LW.nil ?_
      refine NW.then_ ?_
      refine CW.cond_false rfl ?_
      refine CW.skip ?_
      refine NW.then_ ?_
      refine CW.region ?_
      refine LW.move rfl rfl ?_
      refine LW.move rfl rfl ?_
      refine LW.buildSlice (vs := [_]) ⟨rfl, trivial⟩ rfl (by intro v hv; simp at hv; subst hv; rfl) Tryd.underlying36 FactsLawLogCut.info31 rfl (by decide) (by decide) rfl ?_
      intro bs57
      refine LW.append ([.slice (some ⟨b1, 0, none⟩) (textB z y).length (textB z y).length]) rfl rfl Tryd.underlying36 Tryd.underlying36 (.inr ⟨_, rfl⟩) FactsLawLogCut.info31 rfl (ho) (by repeat (first | exact Take.head _ _ | apply Take.tail)) (fun _ => lenOf_slice _ _ _ _) (first_rd (RdAt.row (by repeat (first | exact Take.head _ _ | apply Take.tail)) (fun j v hj => by rw [Nat.zero_add]; exact hj)) rfl (fun h => (by cases h))) (rfl) (by intro u hu; simp at hu; subst hu; rfl) (by omega) (by omega) rfl ?_
      intro v6 ch6 ho6
      refine LW.assign rfl rfl ?_
      refine LW.nil ?_
      refine NW.block ?_
      refine NW.then_ ?_
      refine CW.region ?_
      refine LW.move rfl rfl ?_
      refine LW.add ((i + 1 : Int)) rfl rfl (by first | rfl | exact wr64 (by omega) (by omega) (by omega)) rfl ?_
      refine LW.assign rfl rfl ?_
      refine LW.nil ?_
      refine NW.meet ((i + 1, ⟨g.serial + 1, g.area, g.length, g.recs ++ [textB z y]⟩, e2, v6, vs ++ [.slice (some ⟨b1, 0, none⟩) (textB z y).length (textB z y).length], ch6, [cr b1 5 ((textB z y).map u8v)] ++ rr)) ?j1 ?e1 ?h1
      case j1 => exact ⟨⟨by dsimp only; omega, her2, hef2, hel2, by dsimp only; omega, by dsimp only; rw [List.length_append, hlen]; rfl, by dsimp only; rw [used_app, show LogS.used ⟨g.serial + 1, g.area, g.length, g.recs⟩ = g.used from rfl, hus, textB_len, Nat.add_mul]; omega, by rw [List.length_append]; exact ho6, (hra.more (fun x hx => List.mem_append_right _ hx)).app ((RecAt.own (OwnB.text b1 (textB z y))).more (fun x hx => List.mem_append_left _ hx))⟩, by dsimp only; omega⟩
      case e1 => repeat (first | exact Env.Le.nil _ | refine Env.Le.cons rfl ?_)
      case h1 => exact Sub.heap_cons (by repeat (first | exact Take.head _ _ | apply Take.tail)) (Sub.heap_cons (by repeat (first | exact Take.head _ _ | apply Take.tail)) (Sub.heap_cons (by repeat (first | exact Take.head _ _ | apply Take.tail)) (Sub.heap_cons (Take.both (by repeat (first | exact Take.head _ _ | apply Take.tail)) (by repeat (first | exact Take.head _ _ | apply Take.tail))) (Sub.heap_nil _))))
    · replace hc44 := of_decide_eq_false hc44
      try dsimp only at hc44
      refine CW.exit ?_
      refine NW.then_exit ?_
      refine NW.then_exit ?_
      refine NW.block_exit ?_
      refine NW.then_ ?_
      refine CW.seq ?_
      obtain ⟨Aw, cpw, rfl, hAw, hcw⟩ := OwnS.val ho
      have hmul : i * (z + 2) ≤ 7 * (z + 2) := Nat.mul_le_mul_right _ (by omega)
      refine CW.region ?_
      refine LW.move rfl rfl ?_
      refine LW.move rfl rfl ?_
      refine LW.rem (z3.tmod 8) rfl rfl (by decide) (rfl) rfl ?_
      refine LW.add (z3.tmod 8 + 8) rfl rfl (by first | rfl | exact wr64 (by omega) (by omega) (by omega)) rfl ?_
      refine LW.rem ((m : Int)) rfl rfl (by decide) (hm) rfl ?_
      refine LW.call (dev_Fuse W B p bn bw bl 128 e (m : Int)) Tryd.func41 rfl FactsLawLogCut.fname41 ⟨rfl, rfl, trivial⟩ (by repeat (first | exact Take.head _ _ | apply Take.tail)) rfl ?_
      rintro _ _ ⟨rfl, rfl⟩
      refine LW.nil ?_
      refine NW.then_ ?_
      refine CW.seq ?_
      refine CW.region ?_
      refine LW.move rfl rfl ?_
      refine LW.call (law_text' W B z (by omega) 200) Tryd.func26 rfl FactsLawLogCut.fname26 ⟨rfl, rfl, trivial⟩ (Take.none _) rfl ?_
      rintro _ _ ⟨b2, rfl, rfl⟩
      refine LW.assign rfl rfl ?_
      refine LW.nil ?_
      refine NW.then_ ?_
      refine CW.seq ?_
      have htk := htl 200
      have htz := textB_len z 200
      generalize textB z 200 = t at htk htz ⊢
      refine CW.region ?_
      refine LW.move rfl rfl ?_
      refine LW.move rfl rfl ?_
      refine LW.call (wal_Append_fz W B l q p bn bw bl 128 (e.blow (m : Int)) (ok_blow her.ok m (by omega)) hef (hold_log (flat_blow her.flat _) (by omega) hef hel) (by omega) t htk (by omega) [cr b2 5 (t.map u8v)] (some ⟨b2, 0, none⟩) t.length (srcText W B _ _)) Tryd.func25 rfl FactsLawLogCut.fname25 ⟨rfl, rfl, trivial⟩ (Take.both (by repeat (first | exact Take.head _ _ | apply Take.tail)) (Take.both (by repeat (first | exact Take.head _ _ | apply Take.tail)) (by repeat (first | exact Take.head _ _ | apply Take.tail)))) rfl ?_
      rintro v3 post3 hR
      rcases hR with ⟨rfl, d3, ho3, hf3, hl3, hg3, _, rfl⟩ | ⟨rfl, d3, L, ho3, hd3, hL3, hx3, hg3, _, rfl⟩
      · refine LW.split2 (LW.split2p ?_)
        refine LW.assign rfl rfl ?_
        refine LW.nil ?_
        refine NW.then_ ?_
        refine CW.seq ?_
        refine CW.region ?_
        refine LW.move rfl rfl ?_
        refine LW.move rfl rfl ?_
        refine LW.call (dev_Crash W B p bn bw bl 128 d3 ho3 [] A cp keep hsrc) Tryd.func29 rfl FactsLawLogCut.fname29 ⟨rfl, rfl, trivial⟩ (Take.both (Take.none _) (by repeat (first | exact Take.head _ _ | apply Take.tail))) rfl ?_
        rintro _ _ ⟨cp', cn, cw, cl, rfl, rfl⟩; refine LW.split2 (LW.split2p ?_)
        refine LW.call (wal_Open_ok W B cp' cn cw cl 128 (d3.crash 128 keep) (ho3.crash keep) hg3 (crash_log ho3 hf3 hg3 hl3 keep)) Tryd.func28 rfl FactsLawLogCut.fname28 ⟨rfl, trivial⟩ (by repeat (first | exact Take.head _ _ | apply Take.tail)) rfl ?_
        rintro _ _ ⟨l5, q5, v5, vs5, ch5, ar5, rfl, ho5, hr5, rfl⟩; obtain ⟨A5, cp5, rfl, hA5, hc5⟩ := OwnS.val ho5; refine LW.split2 (LW.split2p ?_)
        refine LW.move rfl rfl ?_
        refine LW.extract rfl rfl rfl ?_
        refine LW.extract rfl rfl rfl ?_
        refine LW.extract rfl rfl rfl ?_
        refine LW.assign rfl rfl ?_
        refine LW.assign rfl rfl ?_
        refine LW.assign rfl rfl ?_
        refine LW.nil ?_
        refine NW.then_ ?_
        refine CW.seq ?_
        refine CW.seq ?_
        refine CW.region ?_
        refine LW.move rfl rfl ?_
        refine LW.neq false rfl rfl (bne_eq_false_iff_eq.2 (by omega)) rfl ?_
        refine LW.move rfl rfl ?_
        refine LW.on 80 rfl rfl ?_
        refine LW.move rfl rfl ?_
        refine LW.on 80 rfl rfl ?_
        refine LW.neq false rfl rfl (bne_eq_false_iff_eq.2 (by omega)) rfl ?_
        refine LW.on 80 rfl rfl ?_
        refine LW.move rfl rfl ?_
        refine LW.off 83 rfl rfl rfl rfl ?_
        refine LW.off 83 rfl rfl rfl rfl ?_
        refine LW.on 80 rfl rfl ?_
        refine LW.pickF rfl rfl rfl ?_
        refine LW.pickF rfl rfl rfl ?_
        refine LW.nil ?_
        refine NW.then_ ?_
        refine CW.cond_false rfl ?_
        refine CW.skip ?_
        refine NW.then_ ?_
        refine CW.seq ?_
        refine CW.seq ?_
        refine CW.region ?_
        refine LW.move rfl rfl ?_
        refine LW.eql false rfl rfl (beq_eq_false_iff_ne.2 (by omega)) rfl ?_
        refine LW.move rfl rfl ?_
        refine LW.off 90 rfl rfl rfl rfl ?_
        refine LW.off 90 rfl rfl rfl rfl ?_
        refine LW.off 90 rfl rfl rfl rfl ?_
        refine LW.off 90 rfl rfl rfl rfl ?_
        refine LW.pickF rfl rfl rfl ?_
        refine LW.nil ?_
        refine NW.then_ ?_
        refine CW.cond_false rfl ?_
        refine CW.skip ?_
        refine NW.then_ ?_
        refine CW.seq ?_
        refine CW.region ?_
        refine LW.move rfl rfl ?_
        refine LW.append (vs) rfl rfl Tryd.underlying36 Tryd.underlying36 (.inr ⟨_, rfl⟩) FactsLawLogCut.info31 rfl (OwnS.nil) (by repeat (first | exact Take.head _ _ | apply Take.tail)) (fun _ => lenOf_slice _ _ _ _) (first_rd (ho.src.rd (by repeat (first | exact Take.head _ _ | apply Take.tail))) (by rw [hra.1]; omega) hAw) (by rw [hra.1]; omega) (hra.one) (by omega) (by omega) rfl ?_
        intro v7 ch7 ho7
        refine LW.move rfl rfl ?_
        refine LW.buildSlice (vs := [_]) ⟨rfl, trivial⟩ rfl (by intro v hv; simp at hv; subst hv; rfl) Tryd.underlying36 FactsLawLogCut.info31 rfl (by decide) (by decide) rfl ?_
        intro bs99
        refine LW.append ([.slice (some ⟨b2, 0, none⟩) t.length t.length]) rfl rfl Tryd.underlying36 Tryd.underlying36 (.inr ⟨_, rfl⟩) FactsLawLogCut.info31 rfl (ho7) (by repeat (first | exact Take.head _ _ | apply Take.tail)) (fun _ => lenOf_slice _ _ _ _) (first_rd (RdAt.row (by repeat (first | exact Take.head _ _ | apply Take.tail)) (fun j v hj => by rw [Nat.zero_add]; exact hj)) rfl (fun h => (by cases h))) (rfl) (by intro u hu; simp at hu; subst hu; rfl) (by omega) (by omega) rfl ?_
        intro v8 ch8 ho8
        refine LW.assign rfl rfl ?_
        refine LW.nil ?_
        refine NW.then_ ?_
        refine CW.seq ?_
        have hra8 : RecsAt W B ([cr b2 5 (t.map u8v)] ++ rr) (vs ++ [.slice (some ⟨b2, 0, none⟩) t.length t.length]) (g.recs ++ [t]) := (hra.more (fun x hx => List.mem_append_right _ hx)).app ((RecAt.own (OwnB.text b2 t)).more (fun x hx => List.mem_append_left _ hx))
        rw [List.nil_append] at ho8
        obtain ⟨A8, cp8, rfl, hA8, hc8⟩ := OwnS.val ho8
        refine CW.region ?_
        refine LW.move rfl rfl ?_
        refine LW.move rfl rfl ?_
        refine LW.call (law_records_eq W B (ch5 ++ (ar5 ++ (ch8 ++ ([cr b2 5 (t.map u8v)] ++ rr)))) A5 A8 cp5 cp8 (g.recs ++ [t]).length _ (g.recs ++ [t]) rfl (by simp) vs5 _ (Src.left W B ho5.src) (hr5.more (fun x hx => by simp [hx])) (Src.right W B (Src.right W B (Src.left W B ho8.src))) (hra8.more (fun x hx => List.mem_append_right _ (List.mem_append_right _ (List.mem_append_right _ hx)))) (by simp; omega)) Tryd.func30 rfl FactsLawLogCut.fname30 ⟨rfl, rfl, trivial⟩ (Take.both (by repeat (first | exact Take.head _ _ | apply Take.tail)) (Take.both (by repeat (first | exact Take.head _ _ | apply Take.tail)) (Take.both (by repeat (first | exact Take.head _ _ | apply Take.tail)) (Take.both (by repeat (first | exact Take.head _ _ | apply Take.tail)) (by repeat (first | exact Take.head _ _ | apply Take.tail)))))) rfl ?_
        rintro _ _ ⟨rfl, rfl⟩; refine LW.split2 ?_
        refine LW.move rfl rfl ?_
        refine LW.off 104 rfl rfl rfl rfl ?_
        refine LW.off 104 rfl rfl rfl rfl ?_
        refine LW.off 104 rfl rfl rfl rfl ?_
        refine LW.offU 107 rfl rfl rfl ?_
        refine LW.offU 107 rfl rfl rfl ?_
        refine LW.offU 107 rfl rfl rfl ?_
        refine LW.off 104 rfl rfl rfl rfl ?_
        refine LW.pickT rfl rfl rfl ?_
        refine LW.assign rfl rfl ?_
        refine LW.nil ?_
        refine NW.then_ ?_
        refine CW.ret ?_
        refine NW.ret1 rfl rfl ⟨_, ⟨rfl, rfl⟩, ?_⟩
        exact Sub.nil _
      · refine LW.split2 (LW.split2p (LW.split2p ?_))
        refine LW.assign rfl rfl ?_
        refine LW.nil ?_
        refine NW.then_ ?_
        refine CW.seq ?_
        refine CW.region ?_
        refine LW.move rfl rfl ?_
        refine LW.move rfl rfl ?_
        refine LW.call (dev_Crash W B p bn bw bl 128 d3 ho3 [] A cp keep hsrc) Tryd.func29 rfl FactsLawLogCut.fname29 ⟨rfl, rfl, trivial⟩ (Take.both (Take.none _) (by repeat (first | exact Take.head _ _ | apply Take.tail))) rfl ?_
        rintro _ _ ⟨cp', cn, cw, cl, rfl, rfl⟩; refine LW.split2 (LW.split2p ?_)
        rcases hx3 _ (crash_mix ho3 keep) with hc3 | hc3
        · refine LW.call (wal_Open_ok W B cp' cn cw cl 128 (d3.crash 128 keep) (ho3.crash keep) hef hc3) Tryd.func28 rfl FactsLawLogCut.fname28 ⟨rfl, trivial⟩ (by repeat (first | exact Take.head _ _ | apply Take.tail)) rfl ?_
          rintro _ _ ⟨l5, q5, v5, vs5, ch5, ar5, rfl, ho5, hr5, rfl⟩; obtain ⟨A5, cp5, rfl, hA5, hc5⟩ := OwnS.val ho5; refine LW.split2 (LW.split2p ?_)
          refine LW.move rfl rfl ?_
          refine LW.extract rfl rfl rfl ?_
          refine LW.extract rfl rfl rfl ?_
          refine LW.extract rfl rfl rfl ?_
          refine LW.assign rfl rfl ?_
          refine LW.assign rfl rfl ?_
          refine LW.assign rfl rfl ?_
          refine LW.nil ?_
          refine NW.then_ ?_
          refine CW.seq ?_
          refine CW.seq ?_
          refine CW.region ?_
          refine LW.move rfl rfl ?_
          refine LW.neq false rfl rfl (bne_eq_false_iff_eq.2 (by omega)) rfl ?_
          refine LW.move rfl rfl ?_
          refine LW.on 80 rfl rfl ?_
          refine LW.move rfl rfl ?_
          refine LW.on 80 rfl rfl ?_
          refine LW.neq true rfl rfl (bne_iff_ne.2 (by omega)) rfl ?_
          refine LW.on 80 rfl rfl ?_
          refine LW.move rfl rfl ?_
          refine LW.on 83 rfl rfl ?_
          refine LW.move rfl rfl ?_
          refine LW.on 83 rfl rfl ?_
          refine LW.neq false rfl rfl (bne_eq_false_iff_eq.2 (by omega)) rfl ?_
          refine LW.on 80 rfl rfl ?_
          refine LW.pickT rfl rfl rfl ?_
          refine LW.pickF rfl rfl rfl ?_
          refine LW.nil ?_
          refine NW.then_ ?_
          refine CW.cond_false rfl ?_
          refine CW.skip ?_
          refine NW.then_ ?_
          refine CW.seq ?_
          refine CW.seq ?_
          refine CW.region ?_
          refine LW.move rfl rfl ?_
          refine LW.eql true rfl rfl (beq_iff_eq.2 (by omega)) rfl ?_
          refine LW.move rfl rfl ?_
          refine LW.on 90 rfl rfl ?_
          refine LW.move rfl rfl ?_
          refine LW.on 90 rfl rfl ?_
          refine LW.move rfl rfl ?_
          refine LW.on 90 rfl rfl ?_
          refine LW.call (wal_Append_bad W B l q p L hL3 _ _ _) Tryd.func25 rfl FactsLawLogCut.fname25 ⟨rfl, rfl, trivial⟩ (by repeat (first | exact Take.head _ _ | apply Take.tail)) rfl ?_
          rintro _ _ ⟨rfl, rfl⟩
          refine LW.on 90 rfl rfl ?_
          refine LW.neq false rfl rfl (bne_eq_false_iff_eq.2 (by omega)) rfl ?_
          refine LW.pickT rfl rfl rfl ?_
          refine LW.nil ?_
          refine NW.then_ ?_
          refine CW.cond_false rfl ?_
          refine CW.skip ?_
          refine NW.then_ ?_
          refine CW.seq ?_
          refine CW.region ?_
          refine LW.move rfl rfl ?_
          refine LW.append (vs) rfl rfl Tryd.underlying36 Tryd.underlying36 (.inr ⟨_, rfl⟩) FactsLawLogCut.info31 rfl (OwnS.nil) (by repeat (first | exact Take.head _ _ | apply Take.tail)) (fun _ => lenOf_slice _ _ _ _) (first_rd (ho.src.rd (by repeat (first | exact Take.head _ _ | apply Take.tail))) (by rw [hra.1]; omega) hAw) (by rw [hra.1]; omega) (hra.one) (by omega) (by omega) rfl ?_
          intro v7 ch7 ho7
          refine LW.move rfl rfl ?_
          refine LW.buildSlice (vs := [_]) ⟨rfl, trivial⟩ rfl (by intro v hv; simp at hv; subst hv; rfl) Tryd.underlying36 FactsLawLogCut.info31 rfl (by decide) (by decide) rfl ?_
          intro bs99
          refine LW.append ([.slice (some ⟨b2, 0, none⟩) t.length t.length]) rfl rfl Tryd.underlying36 Tryd.underlying36 (.inr ⟨_, rfl⟩) FactsLawLogCut.info31 rfl (ho7) (by repeat (first | exact Take.head _ _ | apply Take.tail)) (fun _ => lenOf_slice _ _ _ _) (first_rd (RdAt.row (by repeat (first | exact Take.head _ _ | apply Take.tail)) (fun j v hj => by rw [Nat.zero_add]; exact hj)) rfl (fun h => (by cases h))) (rfl) (by intro u hu; simp at hu; subst hu; rfl) (by omega) (by omega) rfl ?_
          intro v8 ch8 ho8
          refine LW.assign rfl rfl ?_
          refine LW.nil ?_
          refine NW.then_ ?_
          refine CW.seq ?_
          have hra8 : RecsAt W B ([cr b2 5 (t.map u8v)] ++ rr) (vs ++ [.slice (some ⟨b2, 0, none⟩) t.length t.length]) (g.recs ++ [t]) := (hra.more (fun x hx => List.mem_append_right _ hx)).app ((RecAt.own (OwnB.text b2 t)).more (fun x hx => List.mem_append_left _ hx))
          rw [List.nil_append] at ho8
          obtain ⟨A8, cp8, rfl, hA8, hc8⟩ := OwnS.val ho8
          refine CW.region ?_
          refine LW.move rfl rfl ?_
          refine LW.move rfl rfl ?_
          refine LW.call (law_records_ne W B (ch5 ++ (ar5 ++ (ch8 ++ ([cr b2 5 (t.map u8v)] ++ rr)))) A5 A8 cp5 cp8 _ _ g.recs (g.recs ++ [t]) rfl (by simp) vs5 _ (Src.left W B ho5.src) (hr5.more (fun x hx => by simp [hx])) (Src.right W B (Src.right W B (Src.left W B ho8.src))) (hra8.more (fun x hx => List.mem_append_right _ (List.mem_append_right _ (List.mem_append_right _ hx)))) (by omega) (by simp; omega) (app_ne _ _)) Tryd.func30 rfl FactsLawLogCut.fname30 ⟨rfl, rfl, trivial⟩ (Take.both (by repeat (first | exact Take.head _ _ | apply Take.tail)) (Take.both (by repeat (first | exact Take.head _ _ | apply Take.tail)) (Take.both (by repeat (first | exact Take.head _ _ | apply Take.tail)) (Take.both (by repeat (first | exact Take.head _ _ | apply Take.tail)) (by repeat (first | exact Take.head _ _ | apply Take.tail)))))) rfl ?_
          rintro _ _ ⟨rfl, rfl⟩; refine LW.split2 (LW.split2p (LW.split3p (LW.split4p ?_)))
          refine LW.move rfl rfl ?_
          refine LW.on 104 rfl rfl ?_
          refine LW.move rfl rfl ?_
          refine LW.on 104 rfl rfl ?_
          refine LW.neq true rfl rfl (bne_iff_ne.2 (by omega)) rfl ?_
          refine LW.on 104 rfl rfl ?_
          refine LW.move rfl rfl ?_
          refine LW.on 107 rfl rfl ?_
          refine LW.move rfl rfl ?_
          refine LW.on 107 rfl rfl ?_
          refine LW.move rfl rfl ?_
          refine LW.on 107 rfl rfl ?_
          refine LW.call (law_records_eq W B (ch5 ++ (ar5 ++ (ch ++ rr))) A5 Aw cp5 cpw g.recs.length g.recs.length g.recs rfl rfl vs5 vs (Src.left W B ho5.src) (hr5.more (fun x hx => by simp [hx])) (Src.right W B (Src.right W B (Src.left W B ho.src))) (hra.more (fun x hx => by simp [hx])) (by omega)) Tryd.func30 rfl FactsLawLogCut.fname30 ⟨rfl, rfl, trivial⟩ (Take.both (by repeat (first | exact Take.head _ _ | apply Take.tail)) (Take.both (by repeat (first | exact Take.head _ _ | apply Take.tail)) (Take.both (by repeat (first | exact Take.head _ _ | apply Take.tail)) (by repeat (first | exact Take.head _ _ | apply Take.tail))))) rfl ?_
          rintro _ _ ⟨rfl, rfl⟩; refine LW.split2 ?_
          refine LW.on 104 rfl rfl ?_
          refine LW.pickT rfl rfl rfl ?_
          refine LW.pickF rfl rfl rfl ?_
          refine LW.assign rfl rfl ?_
          refine LW.nil ?_
          refine NW.then_ ?_
          refine CW.ret ?_
          refine NW.ret1 rfl rfl ⟨_, ⟨rfl, rfl⟩, ?_⟩
          exact Sub.nil _
        · refine LW.call (wal_Open_ok W B cp' cn cw cl 128 (d3.crash 128 keep) (ho3.crash keep) hg3 hc3) Tryd.func28 rfl FactsLawLogCut.fname28 ⟨rfl, trivial⟩ (by repeat (first | exact Take.head _ _ | apply Take.tail)) rfl ?_
          rintro _ _ ⟨l5, q5, v5, vs5, ch5, ar5, rfl, ho5, hr5, rfl⟩; obtain ⟨A5, cp5, rfl, hA5, hc5⟩ := OwnS.val ho5; refine LW.split2 (LW.split2p ?_)
          refine LW.move rfl rfl ?_
          refine LW.extract rfl rfl rfl ?_
          refine LW.extract rfl rfl rfl ?_
          refine LW.extract rfl rfl rfl ?_
          refine LW.assign rfl rfl ?_
          refine LW.assign rfl rfl ?_
          refine LW.assign rfl rfl ?_
          refine LW.nil ?_
          refine NW.then_ ?_
          refine CW.seq ?_
          refine CW.seq ?_
          refine CW.region ?_
          refine LW.move rfl rfl ?_
          refine LW.neq false rfl rfl (bne_eq_false_iff_eq.2 (by omega)) rfl ?_
          refine LW.move rfl rfl ?_
          refine LW.on 80 rfl rfl ?_
          refine LW.move rfl rfl ?_
          refine LW.on 80 rfl rfl ?_
          refine LW.neq true rfl rfl (bne_iff_ne.2 (by omega)) rfl ?_
          refine LW.on 80 rfl rfl ?_
          refine LW.move rfl rfl ?_
          refine LW.on 83 rfl rfl ?_
          refine LW.move rfl rfl ?_
          refine LW.on 83 rfl rfl ?_
          refine LW.neq false rfl rfl (bne_eq_false_iff_eq.2 (by omega)) rfl ?_
          refine LW.on 80 rfl rfl ?_
          refine LW.pickT rfl rfl rfl ?_
          refine LW.pickF rfl rfl rfl ?_
          refine LW.nil ?_
          refine NW.then_ ?_
          refine CW.cond_false rfl ?_
          refine CW.skip ?_
          refine NW.then_ ?_
          refine CW.seq ?_
          refine CW.seq ?_
          refine CW.region ?_
          refine LW.move rfl rfl ?_
          refine LW.eql true rfl rfl (beq_iff_eq.2 (by omega)) rfl ?_
          refine LW.move rfl rfl ?_
          refine LW.on 90 rfl rfl ?_
          refine LW.move rfl rfl ?_
          refine LW.on 90 rfl rfl ?_
          refine LW.move rfl rfl ?_
          refine LW.on 90 rfl rfl ?_
          refine LW.call (wal_Append_bad W B l q p L hL3 _ _ _) Tryd.func25 rfl FactsLawLogCut.fname25 ⟨rfl, rfl, trivial⟩ (by repeat (first | exact Take.head _ _ | apply Take.tail)) rfl ?_
          rintro _ _ ⟨rfl, rfl⟩
          refine LW.on 90 rfl rfl ?_
          refine LW.neq false rfl rfl (bne_eq_false_iff_eq.2 (by omega)) rfl ?_
          refine LW.pickT rfl rfl rfl ?_
          refine LW.nil ?_
          refine NW.then_ ?_
          refine CW.cond_false rfl ?_
          refine CW.skip ?_
          refine NW.then_ ?_
          refine CW.seq ?_
          refine CW.region ?_
          refine LW.move rfl rfl ?_
          refine LW.append (vs) rfl rfl Tryd.underlying36 Tryd.underlying36 (.inr ⟨_, rfl⟩) FactsLawLogCut.info31 rfl (OwnS.nil) (by repeat (first | exact Take.head _ _ | apply Take.tail)) (fun _ => lenOf_slice _ _ _ _) (first_rd (ho.src.rd (by repeat (first | exact Take.head _ _ | apply Take.tail))) (by rw [hra.1]; omega) hAw) (by rw [hra.1]; omega) (hra.one) (by omega) (by omega) rfl ?_
          intro v7 ch7 ho7
          refine LW.move rfl rfl ?_
          refine LW.buildSlice (vs := [_]) ⟨rfl, trivial⟩ rfl (by intro v hv; simp at hv; subst hv; rfl) Tryd.underlying36 FactsLawLogCut.info31 rfl (by decide) (by decide) rfl ?_
          intro bs99
          refine LW.append ([.slice (some ⟨b2, 0, none⟩) t.length t.length]) rfl rfl Tryd.underlying36 Tryd.underlying36 (.inr ⟨_, rfl⟩) FactsLawLogCut.info31 rfl (ho7) (by repeat (first | exact Take.head _ _ | apply Take.tail)) (fun _ => lenOf_slice _ _ _ _) (first_rd (RdAt.row (by repeat (first | exact Take.head _ _ | apply Take.tail)) (fun j v hj => by rw [Nat.zero_add]; exact hj)) rfl (fun h => (by cases h))) (rfl) (by intro u hu; simp at hu; subst hu; rfl) (by omega) (by omega) rfl ?_
          intro v8 ch8 ho8
          refine LW.assign rfl rfl ?_
          refine LW.nil ?_
          refine NW.then_ ?_
          refine CW.seq ?_
          have hra8 : RecsAt W B ([cr b2 5 (t.map u8v)] ++ rr) (vs ++ [.slice (some ⟨b2, 0, none⟩) t.length t.length]) (g.recs ++ [t]) := (hra.more (fun x hx => List.mem_append_right _ hx)).app ((RecAt.own (OwnB.text b2 t)).more (fun x hx => List.mem_append_left _ hx))
          rw [List.nil_append] at ho8
          obtain ⟨A8, cp8, rfl, hA8, hc8⟩ := OwnS.val ho8
          refine CW.region ?_
          refine LW.move rfl rfl ?_
          refine LW.move rfl rfl ?_
          refine LW.call (law_records_eq W B (ch5 ++ (ar5 ++ (ch8 ++ ([cr b2 5 (t.map u8v)] ++ rr)))) A5 A8 cp5 cp8 (g.recs ++ [t]).length _ (g.recs ++ [t]) rfl (by simp) vs5 _ (Src.left W B ho5.src) (hr5.more (fun x hx => by simp [hx])) (Src.right W B (Src.right W B (Src.left W B ho8.src))) (hra8.more (fun x hx => List.mem_append_right _ (List.mem_append_right _ (List.mem_append_right _ hx)))) (by simp; omega)) Tryd.func30 rfl FactsLawLogCut.fname30 ⟨rfl, rfl, trivial⟩ (Take.both (by repeat (first | exact Take.head _ _ | apply Take.tail)) (Take.both (by repeat (first | exact Take.head _ _ | apply Take.tail)) (Take.both (by repeat (first | exact Take.head _ _ | apply Take.tail)) (Take.both (by repeat (first | exact Take.head _ _ | apply Take.tail)) (by repeat (first | exact Take.head _ _ | apply Take.tail)))))) rfl ?_
          rintro _ _ ⟨rfl, rfl⟩; refine LW.split2 ?_
          refine LW.move rfl rfl ?_
          refine LW.off 104 rfl rfl rfl rfl ?_
          refine LW.off 104 rfl rfl rfl rfl ?_
          refine LW.off 104 rfl rfl rfl rfl ?_
          refine LW.offU 107 rfl rfl rfl ?_
          refine LW.offU 107 rfl rfl rfl ?_
          refine LW.offU 107 rfl rfl rfl ?_
          refine LW.off 104 rfl rfl rfl rfl ?_
          refine LW.pickT rfl rfl rfl ?_
          refine LW.assign rfl rfl ?_
          refine LW.nil ?_
          refine NW.then_ ?_
          refine CW.ret ?_
          refine NW.ret1 rfl rfl ⟨_, ⟨rfl, rfl⟩, ?_⟩
          exact Sub.nil _
end
end Go.Proofs.YtpnhonhjheahhaaDoor
