/-
  SnapTwo, walked.
-/
import Derived.Test.YtpnhonhjheahhaaDoorHelp5
namespace Go.Proofs.YtpnhonhjheahhaaDoor
open Go.RowKit
namespace FactsLawSnapTwo
theorem fname21 : (Tryd.f21.name == "runtime.NumGoroutine") = false := by kernel_rfl
theorem fname22 : (Tryd.f22.name == "runtime.NumGoroutine") = false := by kernel_rfl
theorem fname23 : (Tryd.f23.name == "runtime.NumGoroutine") = false := by kernel_rfl
theorem fname25 : (Tryd.f25.name == "runtime.NumGoroutine") = false := by kernel_rfl
theorem fname26 : (Tryd.f26.name == "runtime.NumGoroutine") = false := by kernel_rfl
theorem fname28 : (Tryd.f28.name == "runtime.NumGoroutine") = false := by kernel_rfl
theorem fname29 : (Tryd.f29.name == "runtime.NumGoroutine") = false := by kernel_rfl
theorem fname31 : (Tryd.f31.name == "runtime.NumGoroutine") = false := by kernel_rfl
theorem fname34 : (Tryd.f34.name == "runtime.NumGoroutine") = false := by kernel_rfl
theorem fname37 : (Tryd.f37.name == "runtime.NumGoroutine") = false := by kernel_rfl
theorem ixs58 : (Tryd.prog.info? 3).map (·.size) = some 1 := by kernel_rfl
theorem one3 : oneB Tryd.prog 3 = true := by kernel_rfl
end FactsLawSnapTwo
structure SnapSt where
  i : Nat
  g : LogS
  d : DevS
  p : Nat
  bn : Nat
  bw : Nat
  bl : Nat
  l : Nat
  q : Nat
section
variable (W : World) (B : Nat)
set_option maxHeartbeats 4000000 in
theorem law_SnapTwo (h0 : 0 < B) (hg : W.cell? ⟨0, 0, none⟩ = some (rty 110)) (A : Option Addr) (cp : Nat) (sizes : List Int) (hat : Src W B [] A (sizes.map i64v)) (A2 : Option Addr) (cp2 : Nat) (keep : List Bool) (hsrc : Src W B [] A2 (keep.map .bool)) :
    Spec Tryd.prog W B 10 [.slice A sizes.length cp, .slice A2 keep.length cp2] [] (fun v post => v = .bool true ∧ post = []) := by
  have hr0 := Rest.zero (n := 256) (by omega) (by omega)
  have hs0 := zero_slot 256 (by omega)
  refine Spec.enter ([]) Tryd.func10 rfl Tryd.ntmps10 rfl (by first | rfl | simp) (fun w0 => ?_)
  refine CW.seq ?_
  refine CW.region ?_
  refine LW.assign rfl rfl ?_
  refine LW.nil ?_
  refine NW.then_ ?_
  refine CW.seq ?_
  refine CW.region ?_
  refine LW.call (law_begun4 W B h0 hg) Tryd.func21 rfl FactsLawSnapTwo.fname21 trivial (Take.none _) rfl ?_
  rintro _ _ ⟨rfl, rfl⟩
  refine LW.assign rfl rfl ?_
  refine LW.nil ?_
  refine NW.then_ ?_
  refine CW.seq ?_
  refine CW.seq ?_
  refine CW.region ?_
  refine LW.move rfl rfl ?_
  refine LW.not (false) rfl (rfl) rfl ?_
  refine LW.nil ?_
  refine NW.then_ ?_
  refine CW.cond_false rfl ?_
  refine CW.skip ?_
  refine NW.then_ ?_
  refine CW.seq ?_
  have hmo : mostN 256 = 4096 := rfl
  have hri : ringN 256 = 8064 := rfl
  refine CW.region ?_
  refine LW.call (dev_New W B 256 (by omega) (by omega)) Tryd.func23 rfl FactsLawSnapTwo.fname23 ⟨rfl, trivial⟩ (Take.none _) rfl ?_
  rintro _ _ ⟨p, bn, bw, bl, rfl, rfl⟩
  refine LW.assign rfl rfl ?_
  refine LW.nil ?_
  refine NW.then_ ?_
  refine CW.seq ?_
  generalize DevS.zero 256 = d0 at hr0 hs0 ⊢
  refine CW.region ?_
  refine LW.move rfl rfl ?_
  refine LW.call (wal_Make_ok W B p bn bw bl 256 d0 hr0.ok hr0.up (hold_slot hr0.flat (by omega) hs0) (by decide)) Tryd.func22 rfl FactsLawSnapTwo.fname22 ⟨rfl, trivial⟩ (by repeat (first | exact Take.head _ _ | apply Take.tail)) rfl ?_
  rintro _ _ ⟨l, q, d1, rfl, hr1, hf1, hl1, _, rfl⟩; refine LW.split2 (LW.split2 ?_)
  refine LW.move rfl rfl ?_
  refine LW.extract rfl rfl rfl ?_
  refine LW.extract rfl rfl rfl ?_
  refine LW.assign rfl rfl ?_
  refine LW.assign rfl rfl ?_
  refine LW.nil ?_
  refine NW.then_ ?_
  refine CW.seq ?_
  refine CW.seq ?_
  refine CW.region ?_
  refine LW.move rfl rfl ?_
  refine LW.neq false rfl rfl (bne_eq_false_iff_eq.2 (by omega)) rfl ?_
  refine LW.nil ?_
  refine NW.then_ ?_
  refine CW.cond_false rfl ?_
  refine CW.skip ?_
  refine NW.then_ ?_
  refine CW.seq ?_
  refine CW.seq ?_
  refine CW.region ?_
  refine LW.assign rfl rfl ?_
  refine LW.nil ?_
  refine NW.then_ ?_
  refine CW.block ?_
  refine CW.loop (fun st : SnapSt => [(9, .int .i64 (st.i : Int)), (7, .pointer (some ⟨st.l, 0, none⟩)), (6, .pointer (some ⟨st.p, 0, none⟩)), (0, .slice A sizes.length cp), (1, .slice A2 keep.length cp2)]) (fun st => [[logR st.l st.q st.p st.g.log], [slC st.q st.p st.g.serial false], devC st.p st.bn st.bw st.bl 256 st.d]) (fun st => st.i ≤ 8 ∧ Rest 256 st.d ∧ st.g.Fine 256 ∧ LogAt st.d.N st.g ∧ st.g.serial ≤ 1 + 10 * (st.i : Int) ∧ putTo st.g.log = 1 + st.i % 2) (fun st => 8 - st.i) ⟨0, ⟨0 + 1, 0, 0, []⟩, d1, p, bn, bw, bl, l, q⟩ ?st9_j ?st9_e ?st9_h ?st9_r
  case st9_j => exact ⟨Nat.zero_le _, hr1, hf1, hl1, by dsimp only; omega, rfl⟩
  case st9_e => repeat (first | exact Env.Le.nil _ | refine Env.Le.cons rfl ?_)
  case st9_h => repeat (first | exact Sub.heap_nil _ | exact Sub.refl _ | refine Sub.heap_cons (Take.none _) ?_ | refine Sub.heap_cons (by repeat (first | exact Take.head _ _ | apply Take.tail)) ?_)
  case st9_r =>
    clear hr1 hf1 hl1 hr0 hs0; rintro ⟨i, g, d, p, bn, bw, bl, l, q⟩ ⟨hi, hr, hf, hl, hse, hpt⟩; dsimp only at hi hr hf hl hse hpt
    try dsimp only
    refine CW.seq ?_
    refine CW.seq ?_
    refine CW.region ?_
    refine LW.move rfl rfl ?_
    refine LW.move rfl rfl ?_
    refine LW.lenSlice rfl Tryd.underlying58 rfl ?_
    by_cases hil : i < sizes.length
    · refine LW.lss true rfl rfl (decide_eq_true (by omega)) rfl ?_
      refine LW.move rfl rfl ?_
      refine LW.on 31 rfl rfl ?_
      refine LW.move rfl rfl ?_
      by_cases hi8 : i < 8
      · refine LW.on 31 rfl rfl ?_
        refine LW.lss true rfl rfl (decide_eq_true (by omega)) rfl ?_
        refine LW.pickT rfl rfl rfl ?_
        refine LW.nil ?_
        refine NW.then_ ?_
        refine CW.cond_true rfl ?_
        refine CW.skip ?_
        refine NW.then_ ?_
        refine CW.seq ?_
        refine CW.block ?_
        refine CW.seq ?_
        obtain ⟨a, rfl⟩ : ∃ a, A = some a := hat.some (by rw [List.length_map]; omega)
        have hgi : (sizes.map i64v)[i]? = some (.int .i64 (sizes.getD i 0)) := by simp [List.getD, List.getElem?_eq_getElem hil, i64v]
        obtain ⟨k, hk, hk2, hu1, hu2⟩ := mod_pos (sizes.getD i 0) 4097 (by decide) (by decide)
        generalize sizes.getD i 0 = x at hgi hk hu1 hu2
        obtain ⟨y, hy⟩ : ∃ y, y = UInt8.ofNat i := ⟨_, rfl⟩
        have hyc : IntKind.u8.wrap (i : Int) = (y.toNat : Int) := by rw [hy]; exact u8_conv i
        refine CW.region ?_
        refine LW.move rfl rfl ?_
        refine LW.move rfl rfl ?_
        refine LW.indexAt rfl rfl Tryd.underlying58 FactsLawSnapTwo.ixs58 (by omega) (by omega) rfl ?_
        refine LW.loadRd (v := .int .i64 x) rfl (hat.rd (Take.none _)) (by simpa using hgi) FactsLawSnapTwo.one3 rfl ?_
        refine LW.rem (x.tmod 4097) rfl rfl (by decide) (rfl) rfl ?_
        refine LW.add (x.tmod 4097 + 4097) rfl rfl (by first | rfl | exact wr64 (by omega) (by omega) (by omega)) rfl ?_
        refine LW.rem ((k : Int)) rfl rfl (by decide) (hk) rfl ?_
        refine LW.move rfl rfl ?_
        refine LW.convInt ((y.toNat : Int)) rfl Tryd.underlying3 Tryd.underlying5 (hyc) rfl ?_
        refine LW.call (law_text' W B k (by omega) y) Tryd.func26 rfl FactsLawSnapTwo.fname26 ⟨rfl, rfl, trivial⟩ (Take.none _) rfl ?_
        rintro _ _ ⟨b1, rfl, rfl⟩
        refine LW.assign rfl rfl ?_
        refine LW.nil ?_
        refine NW.then_ ?_
        refine CW.seq ?_
        refine CW.seq ?_
        have htl := textB_len k y
        generalize textB k y = t at htl ⊢
        refine CW.region ?_
        refine LW.move rfl rfl ?_
        refine LW.move rfl rfl ?_
        refine LW.move rfl rfl ?_
        refine LW.call (snap_Put_ok W B l q p bn bw bl 256 d hr hf hl (by omega) t (by omega) [cr b1 5 (t.map u8v)] (some ⟨b1, 0, none⟩) t.length (srcText W B _ _) (Nat.le_refl _)) Tryd.func37 rfl FactsLawSnapTwo.fname37 ⟨rfl, rfl, rfl, trivial⟩ (Take.both (by repeat (first | exact Take.head _ _ | apply Take.tail)) (Take.both (Take.both (by repeat (first | exact Take.head _ _ | apply Take.tail)) (by repeat (first | exact Take.head _ _ | apply Take.tail))) (by repeat (first | exact Take.head _ _ | apply Take.tail)))) rfl ?_
        rintro _ _ ⟨rfl, d2, hr2, hf2, hl2, ha2, rfl⟩; refine LW.split2 (LW.split2p (LW.split2p ?_))
        refine LW.neq false rfl rfl (bne_eq_false_iff_eq.2 (by omega)) rfl ?_
        refine LW.nil ?_
        refine NW.then_ ?_
        refine CW.cond_false rfl ?_
        refine CW.skip ?_
        refine NW.then_ ?_
        refine CW.seq ?_
        refine CW.region ?_
        refine LW.move rfl rfl ?_
        refine LW.call (wal_Area W B l q p (LogS.log ⟨g.serial + 1, putTo g.log, t.length, []⟩)) Tryd.func31 rfl FactsLawSnapTwo.fname31 ⟨rfl, trivial⟩ (by repeat (first | exact Take.head _ _ | apply Take.tail)) rfl ?_
        rintro _ _ ⟨rfl, rfl⟩
        refine LW.move rfl rfl ?_
        refine LW.extract rfl rfl rfl ?_
        refine LW.extract rfl rfl rfl ?_
        refine LW.assign rfl rfl ?_
        refine LW.assign rfl rfl ?_
        refine LW.nil ?_
        refine NW.then_ ?_
        refine CW.seq ?_
        refine CW.seq ?_
        refine CW.region ?_
        refine LW.move rfl rfl ?_
        refine LW.move rfl rfl ?_
        refine LW.remN rfl rfl (by omega) (by omega) rfl ?_
        refine LW.add64 rfl rfl (by omega) (by omega) rfl ?_
        refine LW.neq false rfl rfl (bne_eq_false_iff_eq.2 (by show ((putTo g.log : Nat) : Int) = _; omega)) rfl ?_
        refine LW.move rfl rfl ?_
        refine LW.on 62 rfl rfl ?_
        refine LW.move rfl rfl ?_
        refine LW.on 62 rfl rfl ?_
        refine LW.move rfl rfl ?_
        refine LW.on 62 rfl rfl ?_
        refine LW.lenSlice rfl Tryd.underlying31 rfl ?_
        refine LW.on 62 rfl rfl ?_
        refine LW.neq false rfl rfl (bne_eq_false_iff_eq.2 rfl) rfl ?_
        refine LW.pickF rfl rfl rfl ?_
        refine LW.move rfl rfl ?_
        refine LW.on 68 rfl rfl ?_
        refine LW.move rfl rfl ?_
        refine LW.on 68 rfl rfl ?_
        refine LW.move rfl rfl ?_
        refine LW.on 68 rfl rfl ?_
        refine LW.convInt ((y.toNat : Int)) rfl Tryd.underlying3 Tryd.underlying5 (hyc) rfl ?_
        refine LW.on 68 rfl rfl ?_
        refine LW.call (law_text' W B 3 (by omega) y) Tryd.func26 rfl FactsLawSnapTwo.fname26 ⟨rfl, rfl, trivial⟩ (Take.none _) rfl ?_
        rintro _ _ ⟨b3, rfl, rfl⟩
        refine LW.on 68 rfl rfl ?_
        refine LW.call (wal_Append_ok W B l q p bn bw bl 256 d2 hr2 hf2 hl2 (by dsimp only; omega) (textB 3 y) ⟨by rw [textB_len]; omega, by rw [textB_len]; omega⟩ (by rw [textB_len, used_nil]; omega) [cr b3 5 ((textB 3 y).map u8v)] (some ⟨b3, 0, none⟩) (textB 3 y).length (srcText W B _ _)) Tryd.func25 rfl FactsLawSnapTwo.fname25 ⟨rfl, rfl, trivial⟩ (Take.both (by repeat (first | exact Take.head _ _ | apply Take.tail)) (Take.both (Take.both (by repeat (first | exact Take.head _ _ | apply Take.tail)) (by repeat (first | exact Take.head _ _ | apply Take.tail))) (by repeat (first | exact Take.head _ _ | apply Take.tail)))) rfl ?_
        rintro _ _ ⟨rfl, d4, hr4, hf4, hl4, hh4, rfl⟩; refine LW.split2 (LW.split2p ?_)
        refine LW.on 68 rfl rfl ?_
        refine LW.neq false rfl rfl (bne_eq_false_iff_eq.2 (by omega)) rfl ?_
        refine LW.pickF rfl rfl rfl ?_
        refine LW.nil ?_
        refine NW.then_ ?_
        refine CW.cond_false rfl ?_
        refine CW.skip ?_
        refine NW.then_ ?_
        refine CW.seq ?_
        refine CW.region ?_
        refine LW.move rfl rfl ?_
        refine LW.move rfl rfl ?_
        refine LW.call (dev_Crash W B p bn bw bl 256 d4 hr4.ok [] A2 cp2 keep hsrc) Tryd.func29 rfl FactsLawSnapTwo.fname29 ⟨rfl, rfl, trivial⟩ (Take.both (Take.none _) (by repeat (first | exact Take.head _ _ | apply Take.tail))) rfl ?_
        rintro _ _ ⟨cp', cn, cw, cl, rfl, rfl⟩; refine LW.split2 (LW.split2p ?_)
        refine LW.assign rfl rfl ?_
        refine LW.nil ?_
        refine NW.then_ ?_
        refine CW.seq ?_
        have hrc := Rest.crash hr4.ok keep
        have hlc := crash_log hr4.ok hr4.flat hf4 hl4 keep
        have hac : AreaIs (d4.crash 256 keep).N (beginN 256 (putTo g.log)) t := area_crash hr4 (areaIs_same (fun j hj => hh4 j (by unfold beginN at hj; omega)) ha2) (fun j hj => by unfold beginN; have := putTo_two g.log; omega) keep
        generalize d4.crash 256 keep = dc at hrc hlc hac ⊢
        refine CW.region ?_
        refine LW.assign rfl rfl ?_
        refine LW.nil ?_
        refine NW.then_ ?_
        refine CW.seq ?_
        refine CW.region ?_
        refine LW.move rfl rfl ?_
        refine LW.call (wal_Open_ok W B cp' cn cw cl 256 dc hrc.ok hf4 hlc) Tryd.func28 rfl FactsLawSnapTwo.fname28 ⟨rfl, trivial⟩ (by repeat (first | exact Take.head _ _ | apply Take.tail)) rfl ?_
        rintro _ _ ⟨l5, q5, v5, vs5, ch5, ar5, rfl, ho5, hr5, rfl⟩; obtain ⟨A5, cp5, rfl, hA5, hc5⟩ := OwnS.val ho5; refine LW.split2 (LW.split2p (LW.split3p (LW.split3p ?_)))
        refine LW.move rfl rfl ?_
        refine LW.extract rfl rfl rfl ?_
        refine LW.extract rfl rfl rfl ?_
        refine LW.extract rfl rfl rfl ?_
        refine LW.assign rfl rfl ?_
        refine LW.assign rfl rfl ?_
        refine LW.assign rfl rfl ?_
        refine LW.nil ?_
        refine NW.then_ ?_
        refine CW.seq ?_
        refine CW.seq ?_
        refine CW.region ?_
        refine LW.move rfl rfl ?_
        refine LW.neq false rfl rfl (bne_eq_false_iff_eq.2 (by omega)) rfl ?_
        refine LW.move rfl rfl ?_
        refine LW.on 87 rfl rfl ?_
        refine LW.move rfl rfl ?_
        refine LW.on 87 rfl rfl ?_
        refine LW.lenSlice rfl Tryd.underlying36 rfl ?_
        refine LW.on 87 rfl rfl ?_
        refine LW.neq false rfl rfl (rfl) rfl ?_
        refine LW.pickF rfl rfl rfl ?_
        refine LW.nil ?_
        refine NW.then_ ?_
        refine CW.cond_false rfl ?_
        refine CW.skip ?_
        refine NW.then_ ?_
        refine CW.seq ?_
        refine CW.region ?_
        refine LW.move rfl rfl ?_
        refine LW.move rfl rfl ?_
        refine LW.call (snap_Get_at W B l5 q5 cp' cn cw cl 256 dc hrc.ok _ 0 t (getL_area (a := putTo g.log) rfl (putTo_two g.log) rfl (by omega) (fun i hi => ok_len hrc.ok hi) hac)) Tryd.func34 rfl FactsLawSnapTwo.fname34 ⟨rfl, rfl, trivial⟩ (Take.both (by repeat (first | exact Take.head _ _ | apply Take.tail)) (by repeat (first | exact Take.head _ _ | apply Take.tail))) rfl ?_
        rintro _ _ ⟨A7, cp7, ch7, rfl, hx7, _, _, rfl⟩; refine LW.split2 (LW.split2p ?_)
        refine LW.move rfl rfl ?_
        refine LW.extract rfl rfl rfl ?_
        refine LW.extract rfl rfl rfl ?_
        refine LW.assign rfl rfl ?_
        refine LW.assign rfl rfl ?_
        refine LW.nil ?_
        refine NW.then_ ?_
        refine CW.seq ?_
        refine CW.region ?_
        refine LW.move rfl rfl ?_
        refine LW.neq false rfl rfl (bne_eq_false_iff_eq.2 (by omega)) rfl ?_
        refine LW.move rfl rfl ?_
        refine LW.on 100 rfl rfl ?_
        refine LW.move rfl rfl ?_
        refine LW.on 100 rfl rfl ?_
        refine LW.bytesStr (t) rfl Tryd.underlying31 Tryd.underlying5 Tryd.underlying9 (hx7.rd (by repeat (first | exact Take.head _ _ | apply Take.tail))) (rfl) rfl ?_
        refine LW.on 100 rfl rfl ?_
        refine LW.move rfl rfl ?_
        refine LW.on 100 rfl rfl ?_
        refine LW.bytesStr (t) rfl Tryd.underlying31 Tryd.underlying5 Tryd.underlying9 ((srcText W B b1 t).rd (by repeat (first | exact Take.head _ _ | apply Take.tail))) (rfl) rfl ?_
        refine LW.on 100 rfl rfl ?_
        refine LW.strNeq (false) rfl rfl Tryd.underlying9 (decide_eq_false (fun h => h rfl)) rfl ?_
        refine LW.pickF rfl rfl rfl ?_
        refine LW.nil ?_
        refine NW.then_ ?_
        refine CW.cond_false rfl ?_
        refine CW.skip ?_
        refine NW.block ?_
        refine NW.then_ ?_
        refine CW.region ?_
        refine LW.move rfl rfl ?_
        refine LW.add ((i + 1 : Int)) rfl rfl (by first | rfl | exact wr64 (by omega) (by omega) (by omega)) rfl ?_
        refine LW.assign rfl rfl ?_
        refine LW.nil ?_
        refine NW.meet (⟨i + 1, ⟨g.serial + 1 + 1, putTo g.log, t.length, [] ++ [textB 3 y]⟩, dc, cp', cn, cw, cl, l5, q5⟩) ?j1 ?e1 ?h1
        case j1 => exact ⟨⟨by dsimp only; omega, hrc, hf4, hlc, by dsimp only; omega, putTo_next hpt⟩, by dsimp only; omega⟩
        case e1 => repeat (first | exact Env.Le.nil _ | refine Env.Le.cons rfl ?_)
        case h1 => repeat (first | exact Sub.heap_nil _ | exact Sub.refl _ | refine Sub.heap_cons (Take.none _) ?_ | refine Sub.heap_cons (by repeat (first | exact Take.head _ _ | apply Take.tail)) ?_)
      · refine LW.on 31 rfl rfl ?_
        refine LW.lss false rfl rfl (decide_eq_false (by omega)) rfl ?_
        refine LW.pickT rfl rfl rfl ?_
        refine LW.nil ?_
        refine NW.then_ ?_
        refine CW.cond_false rfl ?_
        refine CW.exit ?_
        refine NW.then_exit ?_
        refine NW.then_exit ?_
        refine NW.block_exit ?_
        refine NW.then_ ?_
        refine CW.seq ?_
        refine CW.region ?_
        refine LW.assign rfl rfl ?_
        refine LW.nil ?_
        refine NW.then_ ?_
        refine CW.ret ?_
        refine NW.ret1 rfl rfl ⟨_, ⟨rfl, rfl⟩, ?_⟩
        exact Sub.nil _
    · refine LW.lss false rfl rfl (decide_eq_false (by omega)) rfl ?_
      refine LW.move rfl rfl ?_
      refine LW.off 31 rfl rfl rfl rfl ?_
      refine LW.off 31 rfl rfl rfl rfl ?_
      refine LW.pickF rfl rfl rfl ?_
      refine LW.nil ?_
      refine NW.then_ ?_
      refine CW.cond_false rfl ?_
      refine CW.exit ?_
      refine NW.then_exit ?_
      refine NW.then_exit ?_
      refine NW.block_exit ?_
      refine NW.then_ ?_
      refine CW.seq ?_
      refine CW.region ?_
      refine LW.assign rfl rfl ?_
      refine LW.nil ?_
      refine NW.then_ ?_
      refine CW.ret ?_
      refine NW.ret1 rfl rfl ⟨_, ⟨rfl, rfl⟩, ?_⟩
      exact Sub.nil _
end
end Go.Proofs.YtpnhonhjheahhaaDoor
