/-
  LogNew, walked.
-/
import Derived.Test.YtpnhonhjheahhaaDoorFuz5
namespace Go.Proofs.YtpnhonhjheahhaaDoor
open Go.RowKit
namespace FactsLawLogNew
theorem fname21 : (Tryd.f21.name == "runtime.NumGoroutine") = false := by kernel_rfl
theorem fname22 : (Tryd.f22.name == "runtime.NumGoroutine") = false := by kernel_rfl
theorem fname23 : (Tryd.f23.name == "runtime.NumGoroutine") = false := by kernel_rfl
theorem fname24 : (Tryd.f24.name == "runtime.NumGoroutine") = false := by kernel_rfl
theorem fname25 : (Tryd.f25.name == "runtime.NumGoroutine") = false := by kernel_rfl
theorem fname26 : (Tryd.f26.name == "runtime.NumGoroutine") = false := by kernel_rfl
theorem fname28 : (Tryd.f28.name == "runtime.NumGoroutine") = false := by kernel_rfl
theorem fname29 : (Tryd.f29.name == "runtime.NumGoroutine") = false := by kernel_rfl
theorem fname30 : (Tryd.f30.name == "runtime.NumGoroutine") = false := by kernel_rfl
theorem fname41 : (Tryd.f41.name == "runtime.NumGoroutine") = false := by kernel_rfl
theorem info31 : (Tryd.prog.info? 31).map (fun i => (i.zero, i.size, i.bytes)) = some (some (.slice none 0 0), 1, 24) := by kernel_rfl
theorem ixs36 : (Tryd.prog.info? 31).map (·.size) = some 1 := by kernel_rfl
theorem one31 : oneB Tryd.prog 31 = true := by kernel_rfl
end FactsLawLogNew
section
variable (W : World) (B : Nat)
set_option maxHeartbeats 4000000 in
theorem law_LogNew (h0 : 0 < B) (hg : W.cell? ⟨0, 0, none⟩ = some (rty 110)) (z1 z3 : Int) (A : Option Addr) (cp : Nat) (keep : List Bool) (hsrc : Src W B [] A (keep.map .bool)) :
    Spec Tryd.prog W B 20 [.int .i64 z1, .int .i64 z3, .slice A keep.length cp] [] (fun v post => v = .bool true ∧ post = []) := by
  obtain ⟨n, hn, hn2, hy1, hy2⟩ := mod_pos z1 6 (by decide) (by decide)
  obtain ⟨m, hm, hm2, hx1, hx2⟩ := mod_pos z3 6 (by decide) (by decide)
  have hr0 := Rest.zero (n := 64) (by omega) (by omega)
  have hs0 := zero_slot 64 (by omega)
  refine Spec.enter ([]) Tryd.func20 rfl Tryd.ntmps20 rfl (by first | rfl | simp) (fun w0 => ?_)
  refine CW.seq ?_
  refine CW.region ?_
  refine LW.assign rfl rfl ?_
  refine LW.nil ?_
  refine NW.then_ ?_
  refine CW.seq ?_
  refine CW.region ?_
  refine LW.call (law_begun4 W B h0 hg) Tryd.func21 rfl FactsLawLogNew.fname21 trivial (Take.none _) rfl ?_
  rintro _ _ ⟨rfl, rfl⟩
  refine LW.assign rfl rfl ?_
  refine LW.nil ?_
  refine NW.then_ ?_
  refine CW.seq ?_
  refine CW.seq ?_
  refine CW.region ?_
  refine LW.move rfl rfl ?_
  refine LW.not (false) rfl (rfl) rfl ?_
  refine LW.nil ?_
  refine NW.then_ ?_
  refine CW.cond_false rfl ?_
  refine CW.skip ?_
  refine NW.then_ ?_
  refine CW.seq ?_
  refine CW.region ?_
  refine LW.move rfl rfl ?_
  refine LW.rem (z1.tmod 6) rfl rfl (by decide) (rfl) rfl ?_
  refine LW.add (z1.tmod 6 + 6) rfl rfl (by first | rfl | exact wr64 (by omega) (by omega) (by omega)) rfl ?_
  refine LW.rem ((n : Int)) rfl rfl (by decide) (hn) rfl ?_
  refine LW.assign rfl rfl ?_
  refine LW.nil ?_
  refine NW.then_ ?_
  refine CW.seq ?_
  have hrn : ringN 64 = 1920 := rfl
  have htl : ∀ x, okRec (textB 20 x) := fun x => ⟨by rw [textB_len]; omega, by rw [textB_len]; omega⟩
  refine CW.region ?_
  refine LW.call (dev_New W B 64 (by omega) (by omega)) Tryd.func23 rfl FactsLawLogNew.fname23 ⟨rfl, trivial⟩ (Take.none _) rfl ?_
  rintro _ _ ⟨p, bn, bw, bl, rfl, rfl⟩
  refine LW.assign rfl rfl ?_
  refine LW.nil ?_
  refine NW.then_ ?_
  refine CW.seq ?_
  generalize DevS.zero 64 = d0 at hr0 hs0 ⊢
  refine CW.region ?_
  refine LW.move rfl rfl ?_
  refine LW.call (wal_Make_ok W B p bn bw bl 64 d0 hr0.ok hr0.up (hold_slot hr0.flat (by omega) hs0) (by decide)) Tryd.func22 rfl FactsLawLogNew.fname22 ⟨rfl, trivial⟩ (by repeat (first | exact Take.head _ _ | apply Take.tail)) rfl ?_
  rintro _ _ ⟨l, q, d1, rfl, hr1, hf1, hl1, _, rfl⟩; refine LW.split2 ?_
  refine LW.move rfl rfl ?_
  refine LW.extract rfl rfl rfl ?_
  refine LW.extract rfl rfl rfl ?_
  refine LW.assign rfl rfl ?_
  refine LW.assign rfl rfl ?_
  refine LW.nil ?_
  refine NW.then_ ?_
  refine CW.seq ?_
  refine CW.seq ?_
  refine CW.region ?_
  refine LW.move rfl rfl ?_
  refine LW.neq false rfl rfl (bne_eq_false_iff_eq.2 (by omega)) rfl ?_
  refine LW.nil ?_
  refine NW.then_ ?_
  refine CW.cond_false rfl ?_
  refine CW.skip ?_
  refine NW.then_ ?_
  refine CW.seq ?_
  refine CW.region ?_
  refine LW.assign rfl rfl ?_
  refine LW.nil ?_
  refine NW.then_ ?_
  refine CW.seq ?_
  refine CW.seq ?_
  refine CW.region ?_
  refine LW.assign rfl rfl ?_
  refine LW.nil ?_
  refine NW.then_ ?_
  refine CW.block ?_
  refine CW.loop (fun st : Nat × LogS × DevS × Value × List Value × List Row × List Row => [(12, .int .i64 (st.1 : Int)), (11, st.2.2.2.1), (9, .pointer (some ⟨l, 0, none⟩)), (8, .pointer (some ⟨p, 0, none⟩)), (0, .int .i64 (n : Int)), (1, .int .i64 z3), (2, .slice A keep.length cp)]) (fun st => [logC l q p st.2.1.log, devC p bn bw bl 64 st.2.2.1, st.2.2.2.2.2.1, st.2.2.2.2.2.2]) (fun st => st.1 ≤ n ∧ Rest 64 st.2.2.1 ∧ st.2.1.Fine 64 ∧ LogAt st.2.2.1.N st.2.1 ∧ st.2.1.serial = 1 + (st.1 : Int) ∧ st.2.1.recs.length = st.1 ∧ st.2.1.used = st.1 * 22 ∧ OwnS 31 1 st.2.2.2.1 st.2.1.recs.length st.2.2.2.2.1 st.2.2.2.2.2.1 ∧ RecsAt W B st.2.2.2.2.2.2 st.2.2.2.2.1 st.2.1.recs) (fun st => n - st.1) (0, ⟨0 + 1, 0, 0, []⟩, d1, .slice none 0 0, [], [], []) ?st11_j ?st11_e ?st11_h ?st11_r
  case st11_j => exact ⟨Nat.zero_le _, hr1, hf1, hl1, by dsimp only; omega, rfl, rfl, OwnS.nil, RecsAt.nil⟩
  case st11_e => repeat (first | exact Env.Le.nil _ | refine Env.Le.cons rfl ?_)
  case st11_h => repeat (first | exact Sub.heap_nil _ | exact Sub.refl _ | refine Sub.heap_cons (Take.none _) ?_ | refine Sub.heap_cons (by repeat (first | exact Take.head _ _ | apply Take.tail)) ?_)
  case st11_r =>
    clear hr1 hf1 hl1; rintro ⟨i, g, e, v, vs, ch, rr⟩ ⟨hin, her, hef, hel, hes, hlen, hus, ho, hra⟩; dsimp only at hin her hef hel hes hlen hus ho hra
    try dsimp only
    refine CW.seq ?_
    refine CW.seq ?_
    refine CW.region ?_
    refine LW.move rfl rfl ?_
    refine LW.move rfl rfl ?_
    refine LW.lss (decide ((i : Int) < (n : Int))) rfl rfl (rfl) rfl ?_
    refine LW.nil ?_
    refine NW.then_ ?_
    refine CW.cond rfl (fun hc35 => ?_) (fun hc35 => ?_)
    · replace hc35 := of_decide_eq_true hc35
      try dsimp only at hc35
      have hin' : i < n := by omega
      refine CW.skip ?_
      refine NW.then_ ?_
      refine CW.seq ?_
      refine CW.block ?_
      refine CW.seq ?_
      refine CW.region ?_
      refine LW.move rfl rfl ?_
      refine LW.move rfl rfl ?_
      refine LW.convInt (((UInt8.ofNat i).toNat : Int)) rfl Tryd.underlying3 Tryd.underlying5 (u8_conv _) rfl ?_
      refine LW.call (law_text' W B 20 (by omega) (UInt8.ofNat i)) Tryd.func26 rfl FactsLawLogNew.fname26 ⟨rfl, rfl, trivial⟩ (Take.none _) rfl ?_
      rintro _ _ ⟨b1, rfl, rfl⟩
      refine LW.buildSlice (vs := [_]) ⟨rfl, trivial⟩ rfl (by intro v hv; simp at hv; subst hv; rfl) Tryd.underlying36 FactsLawLogNew.info31 rfl (by decide) (by decide) rfl ?_
      intro bs42
      refine LW.append ([.slice (some ⟨b1, 0, none⟩) (textB 20 (UInt8.ofNat i)).length (textB 20 (UInt8.ofNat i)).length]) rfl rfl Tryd.underlying36 Tryd.underlying36 (.inr ⟨_, rfl⟩) FactsLawLogNew.info31 rfl (ho) (by repeat (first | exact Take.head _ _ | apply Take.tail)) (fun _ => lenOf_slice _ _ _ _) (first_rd (RdAt.row (by repeat (first | exact Take.head _ _ | apply Take.tail)) (fun j v hj => by rw [Nat.zero_add]; exact hj)) rfl (fun h => (by cases h))) (rfl) (by intro u hu; simp at hu; subst hu; rfl) (by omega) (by omega) rfl ?_
      intro v6 ch6 ho6
      refine LW.assign rfl rfl ?_
      refine LW.nil ?_
      refine NW.then_ ?_
      refine CW.seq ?_
      generalize UInt8.ofNat i = y at ho6 ⊢
      obtain ⟨A6, cp6, rfl, hA6, hc6⟩ := OwnS.val ho6
      have hvl : vs.length = i := by rw [hra.1]; exact hlen
      have hg6 : (vs ++ [Value.slice (some ⟨b1, 0, none⟩) (textB 20 y).length (textB 20 y).length])[i]? = some (Value.slice (some ⟨b1, 0, none⟩) (textB 20 y).length (textB 20 y).length) := by rw [List.getElem?_append_right (by omega), hvl, Nat.sub_self]; rfl
      obtain ⟨a6, rfl⟩ : ∃ a, A6 = some a := (OwnS.src (W := W) (B := B) ho6).some (by simp)
      refine CW.region ?_
      refine LW.move rfl rfl ?_
      refine LW.move rfl rfl ?_
      refine LW.move rfl rfl ?_
      refine LW.indexAt rfl rfl Tryd.underlying36 FactsLawLogNew.ixs36 (by omega) (by omega) rfl ?_
      refine LW.loadRd (v := .slice (some ⟨b1, 0, none⟩) (textB 20 y).length (textB 20 y).length) rfl ((OwnS.src ho6).rd (by repeat (first | exact Take.head _ _ | apply Take.tail))) (by rw [Int.toNat_natCast, Nat.mul_one]; exact hg6) FactsLawLogNew.one31 rfl ?_
      refine LW.call (wal_Append_ok W B l q p bn bw bl 64 e her hef hel (by omega) (textB 20 y) (htl _) (by rw [textB_len]; omega) [cr b1 5 ((textB 20 y).map u8v)] (some ⟨b1, 0, none⟩) (textB 20 y).length (srcText W B _ _)) Tryd.func25 rfl FactsLawLogNew.fname25 ⟨rfl, rfl, trivial⟩ (Take.both (by repeat (first | exact Take.head _ _ | apply Take.tail)) (Take.both (by repeat (first | exact Take.head _ _ | apply Take.tail)) (by repeat (first | exact Take.head _ _ | apply Take.tail)))) rfl ?_
      rintro _ _ ⟨rfl, e2, her2, hef2, hel2, _, rfl⟩; refine LW.split2 (LW.split2p ?_)
      refine LW.neq false rfl rfl (bne_eq_false_iff_eq.2 (by omega)) rfl ?_
      refine LW.nil ?_
      refine NW.then_ ?_
      refine CW.cond_false rfl ?_
      refine CW.skip ?_
      refine NW.block ?_
      refine NW.then_ ?_
      refine CW.region ?_
      refine LW.move rfl rfl ?_
      refine LW.add ((i + 1 : Int)) rfl rfl (by first | rfl | exact wr64 (by omega) (by omega) (by omega)) rfl ?_
      refine LW.assign rfl rfl ?_
      refine LW.nil ?_
      refine NW.meet ((i + 1, ⟨g.serial + 1, g.area, g.length, g.recs ++ [textB 20 y]⟩, e2, .slice (some a6) (g.recs.length + 1) cp6, vs ++ [.slice (some ⟨b1, 0, none⟩) (textB 20 y).length (textB 20 y).length], ch6, [cr b1 5 ((textB 20 y).map u8v)] ++ rr)) ?j1 ?e1 ?h1
      case j1 => exact ⟨⟨by dsimp only; omega, her2, hef2, hel2, by dsimp only; omega, by dsimp only; rw [List.length_append, hlen]; rfl, by dsimp only; rw [used_app, show LogS.used ⟨g.serial + 1, g.area, g.length, g.recs⟩ = g.used from rfl, hus, textB_len]; omega, by rw [List.length_append]; exact ho6, (hra.more (fun x hx => List.mem_append_right _ hx)).app ((RecAt.own (OwnB.text b1 (textB 20 y))).more (fun x hx => List.mem_append_left _ hx))⟩, by dsimp only; omega⟩
      case e1 => repeat (first | exact Env.Le.nil _ | refine Env.Le.cons rfl ?_)
      case h1 => exact Sub.heap_cons (by repeat (first | exact Take.head _ _ | apply Take.tail)) (Sub.heap_cons (by repeat (first | exact Take.head _ _ | apply Take.tail)) (Sub.heap_cons (by repeat (first | exact Take.head _ _ | apply Take.tail)) (Sub.heap_cons (Take.both (by repeat (first | exact Take.head _ _ | apply Take.tail)) (by repeat (first | exact Take.head _ _ | apply Take.tail))) (Sub.heap_nil _))))
    · replace hc35 := of_decide_eq_false hc35
      try dsimp only at hc35
      refine CW.exit ?_
      refine NW.then_exit ?_
      refine NW.then_exit ?_
      refine NW.block_exit ?_
      refine NW.then_ ?_
      refine CW.seq ?_
      obtain ⟨Aw, cpw, rfl, hAw, hcw⟩ := OwnS.val ho
      refine CW.region ?_
      refine LW.move rfl rfl ?_
      refine LW.move rfl rfl ?_
      refine LW.rem (z3.tmod 6) rfl rfl (by decide) (rfl) rfl ?_
      refine LW.add (z3.tmod 6 + 6) rfl rfl (by first | rfl | exact wr64 (by omega) (by omega) (by omega)) rfl ?_
      refine LW.rem ((m : Int)) rfl rfl (by decide) (hm) rfl ?_
      refine LW.call (dev_Fuse W B p bn bw bl 64 e (m : Int)) Tryd.func41 rfl FactsLawLogNew.fname41 ⟨rfl, rfl, trivial⟩ (by repeat (first | exact Take.head _ _ | apply Take.tail)) rfl ?_
      rintro _ _ ⟨rfl, rfl⟩
      refine LW.nil ?_
      refine NW.then_ ?_
      refine CW.seq ?_
      refine CW.region ?_
      refine LW.move rfl rfl ?_
      refine LW.call (wal_Make_fz W B p bn bw bl 64 (e.blow (m : Int)) (ok_blow her.ok m (by omega)) (flat_blow her.flat _) hef hel (by omega)) Tryd.func22 rfl FactsLawLogNew.fname22 ⟨rfl, trivial⟩ (by repeat (first | exact Take.head _ _ | apply Take.tail)) rfl ?_
      rintro v3 post3 hR
      rcases hR with ⟨l3, q3, d3, rfl, ho3, hf3, hl3, hg3, rfl⟩ | ⟨d3, rfl, ho3, hd3, hx3, hg3, rfl⟩
      · refine LW.split2 (LW.split2 ?_)
        refine LW.move rfl rfl ?_
        refine LW.extract rfl rfl rfl ?_
        refine LW.extract rfl rfl rfl ?_
        refine LW.assign rfl rfl ?_
        refine LW.assign rfl rfl ?_
        refine LW.nil ?_
        refine NW.then_ ?_
        refine CW.seq ?_
        refine CW.seq ?_
        refine CW.region ?_
        refine LW.move rfl rfl ?_
        refine LW.eql true rfl rfl (beq_iff_eq.2 (by omega)) rfl ?_
        refine LW.move rfl rfl ?_
        refine LW.on 64 rfl rfl ?_
        refine LW.move rfl rfl ?_
        refine LW.on 64 rfl rfl ?_
        refine LW.call (wal_Room W B l3 q3 p bn bw bl 64 d3 (by omega) (by omega) (LogS.log ⟨g.serial + 1, 0, 0, []⟩) (Nat.zero_le _)) Tryd.func24 rfl FactsLawLogNew.fname24 ⟨rfl, trivial⟩ (Take.both (by repeat (first | exact Take.head _ _ | apply Take.tail)) (by repeat (first | exact Take.head _ _ | apply Take.tail))) rfl ?_
        rintro _ _ ⟨rfl, rfl⟩; refine LW.split2 ?_
        refine LW.on 64 rfl rfl ?_
        refine LW.neq false rfl rfl (bne_eq_false_iff_eq.2 rfl) rfl ?_
        refine LW.pickT rfl rfl rfl ?_
        refine LW.nil ?_
        refine NW.then_ ?_
        refine CW.cond_false rfl ?_
        refine CW.skip ?_
        refine NW.then_ ?_
        refine CW.seq ?_
        refine CW.region ?_
        refine LW.move rfl rfl ?_
        refine LW.move rfl rfl ?_
        refine LW.call (dev_Crash W B p bn bw bl 64 d3 ho3 [] A cp keep hsrc) Tryd.func29 rfl FactsLawLogNew.fname29 ⟨rfl, rfl, trivial⟩ (Take.both (Take.none _) (by repeat (first | exact Take.head _ _ | apply Take.tail))) rfl ?_
        rintro _ _ ⟨cp', cn, cw, cl, rfl, rfl⟩; refine LW.split2 (LW.split2p ?_)
        refine LW.call (wal_Open_ok W B cp' cn cw cl 64 (d3.crash 64 keep) (ho3.crash keep) hg3 (crash_log ho3 hf3 hg3 hl3 keep)) Tryd.func28 rfl FactsLawLogNew.fname28 ⟨rfl, trivial⟩ (by repeat (first | exact Take.head _ _ | apply Take.tail)) rfl ?_
        rintro _ _ ⟨l5, q5, v5, vs5, ch5, ar5, rfl, ho5, hr5, rfl⟩; obtain ⟨A5, cp5, rfl, hA5, hc5⟩ := OwnS.val ho5; refine LW.split2 (LW.split2p ?_)
        refine LW.move rfl rfl ?_
        refine LW.extract rfl rfl rfl ?_
        refine LW.extract rfl rfl rfl ?_
        refine LW.extract rfl rfl rfl ?_
        refine LW.assign rfl rfl ?_
        refine LW.assign rfl rfl ?_
        refine LW.assign rfl rfl ?_
        refine LW.nil ?_
        refine NW.then_ ?_
        refine CW.seq ?_
        refine CW.region ?_
        refine LW.move rfl rfl ?_
        refine LW.eql true rfl rfl (beq_iff_eq.2 (by omega)) rfl ?_
        refine LW.move rfl rfl ?_
        refine LW.on 79 rfl rfl ?_
        refine LW.move rfl rfl ?_
        refine LW.on 79 rfl rfl ?_
        refine LW.lenSlice rfl Tryd.underlying36 rfl ?_
        refine LW.on 79 rfl rfl ?_
        refine LW.eql true rfl rfl (rfl) rfl ?_
        refine LW.on 79 rfl rfl ?_
        refine LW.move rfl rfl ?_
        refine LW.off 83 rfl rfl rfl rfl ?_
        refine LW.off 83 rfl rfl rfl rfl ?_
        refine LW.off 83 rfl rfl rfl rfl ?_
        refine LW.offU 86 rfl rfl rfl ?_
        refine LW.offU 86 rfl rfl rfl ?_
        refine LW.offU 86 rfl rfl rfl ?_
        refine LW.off 83 rfl rfl rfl rfl ?_
        refine LW.on 79 rfl rfl ?_
        refine LW.pickT rfl rfl rfl ?_
        refine LW.pickT rfl rfl rfl ?_
        refine LW.assign rfl rfl ?_
        refine LW.nil ?_
        refine NW.then_ ?_
        refine CW.ret ?_
        refine NW.ret1 rfl rfl ⟨_, ⟨rfl, rfl⟩, ?_⟩
        exact Sub.nil _
      · refine LW.move rfl rfl ?_
        refine LW.extract rfl rfl rfl ?_
        refine LW.extract rfl rfl rfl ?_
        refine LW.assign rfl rfl ?_
        refine LW.assign rfl rfl ?_
        refine LW.nil ?_
        refine NW.then_ ?_
        refine CW.seq ?_
        refine CW.seq ?_
        refine CW.region ?_
        refine LW.move rfl rfl ?_
        refine LW.eql false rfl rfl (beq_eq_false_iff_ne.2 (by omega)) rfl ?_
        refine LW.move rfl rfl ?_
        refine LW.off 64 rfl rfl rfl rfl ?_
        refine LW.off 64 rfl rfl rfl rfl ?_
        refine LW.off 64 rfl rfl rfl rfl ?_
        refine LW.pickF rfl rfl rfl ?_
        refine LW.nil ?_
        refine NW.then_ ?_
        refine CW.cond_false rfl ?_
        refine CW.skip ?_
        refine NW.then_ ?_
        refine CW.seq ?_
        refine CW.region ?_
        refine LW.move rfl rfl ?_
        refine LW.move rfl rfl ?_
        refine LW.call (dev_Crash W B p bn bw bl 64 d3 ho3 [] A cp keep hsrc) Tryd.func29 rfl FactsLawLogNew.fname29 ⟨rfl, rfl, trivial⟩ (Take.both (Take.none _) (by repeat (first | exact Take.head _ _ | apply Take.tail))) rfl ?_
        rintro _ _ ⟨cp', cn, cw, cl, rfl, rfl⟩; refine LW.split2 (LW.split2p ?_)
        rcases hx3 _ (crash_mix ho3 keep) with hc3 | hc3
        · refine LW.call (wal_Open_ok W B cp' cn cw cl 64 (d3.crash 64 keep) (ho3.crash keep) hef hc3) Tryd.func28 rfl FactsLawLogNew.fname28 ⟨rfl, trivial⟩ (by repeat (first | exact Take.head _ _ | apply Take.tail)) rfl ?_
          rintro _ _ ⟨l5, q5, v5, vs5, ch5, ar5, rfl, ho5, hr5, rfl⟩; obtain ⟨A5, cp5, rfl, hA5, hc5⟩ := OwnS.val ho5; refine LW.split2 (LW.split2p ?_)
          refine LW.move rfl rfl ?_
          refine LW.extract rfl rfl rfl ?_
          refine LW.extract rfl rfl rfl ?_
          refine LW.extract rfl rfl rfl ?_
          refine LW.assign rfl rfl ?_
          refine LW.assign rfl rfl ?_
          refine LW.assign rfl rfl ?_
          refine LW.nil ?_
          refine NW.then_ ?_
          refine CW.seq ?_
          refine CW.region ?_
          refine LW.move rfl rfl ?_
          refine LW.eql true rfl rfl (beq_iff_eq.2 (by omega)) rfl ?_
          refine LW.move rfl rfl ?_
          refine LW.on 79 rfl rfl ?_
          refine LW.move rfl rfl ?_
          refine LW.on 79 rfl rfl ?_
          refine LW.lenSlice rfl Tryd.underlying36 rfl ?_
          by_cases hl0 : g.recs.length = 0
          · refine LW.on 79 rfl rfl ?_
            refine LW.eql true rfl rfl (beq_iff_eq.2 (by omega)) rfl ?_
            refine LW.on 79 rfl rfl ?_
            refine LW.move rfl rfl ?_
            refine LW.off 83 rfl rfl rfl rfl ?_
            refine LW.off 83 rfl rfl rfl rfl ?_
            refine LW.off 83 rfl rfl rfl rfl ?_
            refine LW.offU 86 rfl rfl rfl ?_
            refine LW.offU 86 rfl rfl rfl ?_
            refine LW.offU 86 rfl rfl rfl ?_
            refine LW.off 83 rfl rfl rfl rfl ?_
            refine LW.on 79 rfl rfl ?_
            refine LW.pickT rfl rfl rfl ?_
            refine LW.pickT rfl rfl rfl ?_
            refine LW.assign rfl rfl ?_
            refine LW.nil ?_
            refine NW.then_ ?_
            refine CW.ret ?_
            refine NW.ret1 rfl rfl ⟨_, ⟨rfl, rfl⟩, ?_⟩
            exact Sub.nil _
          · refine LW.on 79 rfl rfl ?_
            refine LW.eql false rfl rfl (beq_eq_false_iff_ne.2 (by omega)) rfl ?_
            refine LW.on 79 rfl rfl ?_
            refine LW.move rfl rfl ?_
            refine LW.on 83 rfl rfl ?_
            refine LW.move rfl rfl ?_
            refine LW.on 83 rfl rfl ?_
            refine LW.neq true rfl rfl (bne_iff_ne.2 (by omega)) rfl ?_
            refine LW.on 83 rfl rfl ?_
            refine LW.move rfl rfl ?_
            refine LW.on 86 rfl rfl ?_
            refine LW.move rfl rfl ?_
            refine LW.on 86 rfl rfl ?_
            refine LW.move rfl rfl ?_
            refine LW.on 86 rfl rfl ?_
            refine LW.call (law_records_eq W B (ch5 ++ (ar5 ++ (ch ++ rr))) A5 Aw cp5 cpw g.recs.length g.recs.length g.recs rfl rfl vs5 vs (Src.left W B ho5.src) (hr5.more (fun x hx => by simp [hx])) (Src.right W B (Src.right W B (Src.left W B ho.src))) (hra.more (fun x hx => by simp [hx])) (by omega)) Tryd.func30 rfl FactsLawLogNew.fname30 ⟨rfl, rfl, trivial⟩ (Take.both (by repeat (first | exact Take.head _ _ | apply Take.tail)) (Take.both (by repeat (first | exact Take.head _ _ | apply Take.tail)) (Take.both (by repeat (first | exact Take.head _ _ | apply Take.tail)) (by repeat (first | exact Take.head _ _ | apply Take.tail))))) rfl ?_
            rintro _ _ ⟨rfl, rfl⟩; refine LW.split2 ?_
            refine LW.on 83 rfl rfl ?_
            refine LW.pickT rfl rfl rfl ?_
            refine LW.on 79 rfl rfl ?_
            refine LW.pickF rfl rfl rfl ?_
            refine LW.pickT rfl rfl rfl ?_
            refine LW.assign rfl rfl ?_
            refine LW.nil ?_
            refine NW.then_ ?_
            refine CW.ret ?_
            refine NW.ret1 rfl rfl ⟨_, ⟨rfl, rfl⟩, ?_⟩
            exact Sub.nil _
        · refine LW.call (wal_Open_ok W B cp' cn cw cl 64 (d3.crash 64 keep) (ho3.crash keep) hg3 hc3) Tryd.func28 rfl FactsLawLogNew.fname28 ⟨rfl, trivial⟩ (by repeat (first | exact Take.head _ _ | apply Take.tail)) rfl ?_
          rintro _ _ ⟨l5, q5, v5, vs5, ch5, ar5, rfl, ho5, hr5, rfl⟩; obtain ⟨A5, cp5, rfl, hA5, hc5⟩ := OwnS.val ho5; refine LW.split2 (LW.split2p ?_)
          refine LW.move rfl rfl ?_
          refine LW.extract rfl rfl rfl ?_
          refine LW.extract rfl rfl rfl ?_
          refine LW.extract rfl rfl rfl ?_
          refine LW.assign rfl rfl ?_
          refine LW.assign rfl rfl ?_
          refine LW.assign rfl rfl ?_
          refine LW.nil ?_
          refine NW.then_ ?_
          refine CW.seq ?_
          refine CW.region ?_
          refine LW.move rfl rfl ?_
          refine LW.eql true rfl rfl (beq_iff_eq.2 (by omega)) rfl ?_
          refine LW.move rfl rfl ?_
          refine LW.on 79 rfl rfl ?_
          refine LW.move rfl rfl ?_
          refine LW.on 79 rfl rfl ?_
          refine LW.lenSlice rfl Tryd.underlying36 rfl ?_
          refine LW.on 79 rfl rfl ?_
          refine LW.eql true rfl rfl (rfl) rfl ?_
          refine LW.on 79 rfl rfl ?_
          refine LW.move rfl rfl ?_
          refine LW.off 83 rfl rfl rfl rfl ?_
          refine LW.off 83 rfl rfl rfl rfl ?_
          refine LW.off 83 rfl rfl rfl rfl ?_
          refine LW.offU 86 rfl rfl rfl ?_
          refine LW.offU 86 rfl rfl rfl ?_
          refine LW.offU 86 rfl rfl rfl ?_
          refine LW.off 83 rfl rfl rfl rfl ?_
          refine LW.on 79 rfl rfl ?_
          refine LW.pickT rfl rfl rfl ?_
          refine LW.pickT rfl rfl rfl ?_
          refine LW.assign rfl rfl ?_
          refine LW.nil ?_
          refine NW.then_ ?_
          refine CW.ret ?_
          refine NW.ret1 rfl rfl ⟨_, ⟨rfl, rfl⟩, ?_⟩
          exact Sub.nil _
end
end Go.Proofs.YtpnhonhjheahhaaDoor
