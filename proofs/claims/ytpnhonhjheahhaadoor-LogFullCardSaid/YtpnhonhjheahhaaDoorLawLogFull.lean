/-
  LogFull, walked.
-/
import Derived.Test.YtpnhonhjheahhaaDoorHelp5
namespace Go.Proofs.YtpnhonhjheahhaaDoor
open Go.RowKit
namespace FactsLawLogFull
theorem fname21 : (Tryd.f21.name == "runtime.NumGoroutine") = false := by kernel_rfl
theorem fname22 : (Tryd.f22.name == "runtime.NumGoroutine") = false := by kernel_rfl
theorem fname23 : (Tryd.f23.name == "runtime.NumGoroutine") = false := by kernel_rfl
theorem fname24 : (Tryd.f24.name == "runtime.NumGoroutine") = false := by kernel_rfl
theorem fname25 : (Tryd.f25.name == "runtime.NumGoroutine") = false := by kernel_rfl
theorem fname26 : (Tryd.f26.name == "runtime.NumGoroutine") = false := by kernel_rfl
theorem fname27 : (Tryd.f27.name == "runtime.NumGoroutine") = false := by kernel_rfl
end FactsLawLogFull
theorem ring_wrap (n : Nat) (h0 : 64 ≤ n) (h : n ≤ 4096) : IntKind.wrap .i64 (64 * ((n : Int) / 2 - 2)) = (ringN n : Int) := by
  unfold ringN
  exact wr64 (by omega) (by omega) (by omega)
section
variable (W : World) (B : Nat)
set_option maxHeartbeats 4000000 in
theorem law_LogFull (h0 : 0 < B) (hg : W.cell? ⟨0, 0, none⟩ = some (rty 110)) (z1 z2 : Int) :
    Spec Tryd.prog W B 3 [.int .i64 z1, .int .i64 z2] [] (fun v post => v = .bool true ∧ post = []) := by
  obtain ⟨m, hm, hm2, hx1, hx2⟩ := mod_pos z1 64 (by decide) (by decide)
  obtain ⟨k, hk, hk2, hy1, hy2⟩ := mod_pos z2 1000 (by decide) (by decide)
  have hr0 := Rest.zero (n := 64 + m) (by omega) (by omega)
  have hs0 := zero_slot (64 + m) (by omega)
  refine Spec.enter ([]) Tryd.func3 rfl Tryd.ntmps3 rfl (by first | rfl | simp) (fun w0 => ?_)
  refine CW.seq ?_
  refine CW.region ?_
  refine LW.assign rfl rfl ?_
  refine LW.nil ?_
  refine NW.then_ ?_
  refine CW.seq ?_
  refine CW.region ?_
  refine LW.call (law_begun4 W B h0 hg) Tryd.func21 rfl FactsLawLogFull.fname21 trivial (Take.none _) rfl ?_
  rintro _ _ ⟨rfl, rfl⟩
  refine LW.assign rfl rfl ?_
  refine LW.nil ?_
  refine NW.then_ ?_
  refine CW.seq ?_
  refine CW.seq ?_
  refine CW.region ?_
  refine LW.move rfl rfl ?_
  refine LW.not (false) rfl (rfl) rfl ?_
  refine LW.nil ?_
  refine NW.then_ ?_
  refine CW.cond_false rfl ?_
  refine CW.skip ?_
  refine NW.then_ ?_
  refine CW.seq ?_
  refine CW.region ?_
  refine LW.move rfl rfl ?_
  refine LW.rem (z1.tmod 64) rfl rfl (by decide) (rfl) rfl ?_
  refine LW.add (z1.tmod 64 + 64) rfl rfl (by first | rfl | exact wr64 (by omega) (by omega) (by omega)) rfl ?_
  refine LW.rem ((m : Int)) rfl rfl (by decide) (hm) rfl ?_
  refine LW.add (((64 + m : Nat) : Int)) rfl rfl (by first | rfl | exact wr64 (by omega) (by omega) (by omega)) rfl ?_
  refine LW.move rfl rfl ?_
  refine LW.rem (z2.tmod 1000) rfl rfl (by decide) (rfl) rfl ?_
  refine LW.add (z2.tmod 1000 + 1000) rfl rfl (by first | rfl | exact wr64 (by omega) (by omega) (by omega)) rfl ?_
  refine LW.rem ((k : Int)) rfl rfl (by decide) (hk) rfl ?_
  refine LW.add (((1 + k : Nat) : Int)) rfl rfl (by first | rfl | exact wr64 (by omega) (by omega) (by omega)) rfl ?_
  refine LW.assign rfl rfl ?_
  refine LW.assign rfl rfl ?_
  refine LW.nil ?_
  refine NW.then_ ?_
  refine CW.seq ?_
  generalize hnm : 64 + m = n at hr0 hs0 ⊢
  generalize hkm : 1 + k = z
  have hrn : ringN n ≤ 1000000 := by unfold ringN; omega
  have htl : ∀ x, okRec (textB z x) := fun x => ⟨by rw [textB_len]; omega, by rw [textB_len]; omega⟩
  refine CW.region ?_
  refine LW.move rfl rfl ?_
  refine LW.call (dev_New W B n (by omega) (by omega)) Tryd.func23 rfl FactsLawLogFull.fname23 ⟨rfl, trivial⟩ (Take.none _) rfl ?_
  rintro _ _ ⟨p, bn, bw, bl, rfl, rfl⟩
  generalize DevS.zero n = d0 at hr0 hs0 ⊢
  refine LW.call (wal_Make_ok W B p bn bw bl n d0 hr0.ok hr0.up (hold_slot hr0.flat (by omega) hs0) (by decide)) Tryd.func22 rfl FactsLawLogFull.fname22 ⟨rfl, trivial⟩ (by repeat (first | exact Take.head _ _ | apply Take.tail)) rfl ?_
  rintro _ _ ⟨l, q, d1, rfl, hr1, hf1, hl1, _, rfl⟩; refine LW.split2 (LW.split2 ?_)
  refine LW.move rfl rfl ?_
  refine LW.extract rfl rfl rfl ?_
  refine LW.extract rfl rfl rfl ?_
  refine LW.assign rfl rfl ?_
  refine LW.assign rfl rfl ?_
  refine LW.nil ?_
  refine NW.then_ ?_
  refine CW.seq ?_
  refine CW.seq ?_
  refine CW.region ?_
  refine LW.move rfl rfl ?_
  refine LW.neq false rfl rfl (bne_eq_false_iff_eq.2 (by omega)) rfl ?_
  refine LW.nil ?_
  refine NW.then_ ?_
  refine CW.cond_false rfl ?_
  refine CW.skip ?_
  refine NW.then_ ?_
  refine CW.seq ?_
  refine CW.region ?_
  refine LW.move rfl rfl ?_
  refine LW.quoN rfl rfl (by omega) (by omega) rfl ?_
  refine LW.sub64 rfl rfl (by omega) (by omega) rfl ?_
  refine LW.mul ((ringN n : Int)) rfl rfl (ring_wrap n (by omega) (by omega)) rfl ?_
  refine LW.assign rfl rfl ?_
  refine LW.nil ?_
  refine NW.then_ ?_
  refine CW.seq ?_
  refine CW.block ?_
  refine CW.loop (fun st : LogS × DevS => [(8, .int .i64 ((ringN n : Int) - (st.1.used : Int))), (6, .pointer (some ⟨l, 0, none⟩)), (0, .int .i64 (n : Int)), (1, .int .i64 (z : Int))]) (fun st => [[logR l q p st.1.log], [slC q p st.1.serial false], devC p bn bw bl n st.2]) (fun st => Rest n st.2 ∧ st.1.Fine n ∧ LogAt st.2.N st.1 ∧ st.1.serial ≤ 1 + (st.1.used : Int)) (fun st => ringN n - st.1.used) (⟨0 + 1, 0, 0, []⟩, d1) ?st9_j ?st9_e ?st9_h ?st9_r
  case st9_j => exact ⟨hr1, hf1, hl1, by dsimp only; rw [used_nil]; omega⟩
  case st9_e => repeat (first | exact Env.Le.nil _ | refine Env.Le.cons rfl ?_)
  case st9_h => repeat (first | exact Sub.heap_nil _ | exact Sub.refl _ | refine Sub.heap_cons (Take.none _) ?_ | refine Sub.heap_cons (by repeat (first | exact Take.head _ _ | apply Take.tail)) ?_)
  case st9_r =>
    rintro ⟨g, d⟩ ⟨hr, hf, hl, hse⟩; dsimp only at hr hf hl hse; have hfit := hf.fits
    try dsimp only
    refine CW.seq ?_
    refine CW.seq ?_
    refine CW.region ?_
    refine LW.move rfl rfl ?_
    refine LW.call (wal_Room W B l q p bn bw bl n d (by omega) (by omega) g.log (by show g.used ≤ _; omega)) Tryd.func24 rfl FactsLawLogFull.fname24 ⟨rfl, trivial⟩ (Take.both (by repeat (first | exact Take.head _ _ | apply Take.tail)) (by repeat (first | exact Take.head _ _ | apply Take.tail))) rfl ?_
    rintro _ _ ⟨rfl, rfl⟩; refine LW.split2 ?_
    refine LW.move rfl rfl ?_
    refine LW.eql true rfl rfl (beq_iff_eq.2 rfl) rfl ?_
    refine LW.move rfl rfl ?_
    refine LW.on 38 rfl rfl ?_
    refine LW.move rfl rfl ?_
    refine LW.on 38 rfl rfl ?_
    refine LW.move rfl rfl ?_
    refine LW.on 38 rfl rfl ?_
    refine LW.add64 rfl rfl (by omega) (by omega) rfl ?_
    by_cases hroom : g.used + z + 2 ≤ ringN n
    · refine LW.on 38 rfl rfl ?_
      refine LW.geq true rfl rfl (decide_eq_true (by omega)) rfl ?_
      refine LW.pickT rfl rfl rfl ?_
      refine LW.nil ?_
      refine NW.then_ ?_
      refine CW.cond_true rfl ?_
      refine CW.skip ?_
      refine NW.then_ ?_
      refine CW.block ?_
      refine CW.seq ?_
      refine CW.seq ?_
      refine CW.region ?_
      refine LW.move rfl rfl ?_
      refine LW.move rfl rfl ?_
      refine LW.call (law_text' W B z (by omega) 1) Tryd.func26 rfl FactsLawLogFull.fname26 ⟨rfl, rfl, trivial⟩ (Take.none _) rfl ?_
      rintro _ _ ⟨b1, rfl, rfl⟩
      refine LW.call (wal_Append_ok W B l q p bn bw bl n d hr hf hl (by omega) (textB z 1) (htl _) (by rw [textB_len]; omega) [cr b1 5 ((textB z 1).map u8v)] (some ⟨b1, 0, none⟩) (textB z 1).length (srcText W B _ _)) Tryd.func25 rfl FactsLawLogFull.fname25 ⟨rfl, rfl, trivial⟩ (Take.both (by repeat (first | exact Take.head _ _ | apply Take.tail)) (Take.both (Take.both (by repeat (first | exact Take.head _ _ | apply Take.tail)) (by repeat (first | exact Take.head _ _ | apply Take.tail))) (by repeat (first | exact Take.head _ _ | apply Take.tail)))) rfl ?_
      rintro _ _ ⟨rfl, d2, hr2, hf2, hl2, _, rfl⟩; refine LW.split2 (LW.split2p (LW.split2p ?_))
      refine LW.neq false rfl rfl (bne_eq_false_iff_eq.2 (by omega)) rfl ?_
      refine LW.nil ?_
      refine NW.then_ ?_
      refine CW.cond_false rfl ?_
      refine CW.skip ?_
      refine NW.then_ ?_
      have hua := used_app (g.serial + 1) g.area g.length g.recs (textB z 1)
      rw [textB_len] at hua
      have hug : LogS.used ⟨g.serial + 1, g.area, g.length, g.recs⟩ = g.used := rfl
      refine CW.region ?_
      refine LW.move rfl rfl ?_
      refine LW.move rfl rfl ?_
      refine LW.add64 rfl rfl (by omega) (by omega) rfl ?_
      refine LW.sub ((ringN n : Int) - (LogS.used ⟨g.serial + 1, g.area, g.length, g.recs ++ [textB z 1]⟩ : Int)) rfl rfl (by rw [hua, hug]; exact wr64 (by omega) (by omega) (by omega)) rfl ?_
      refine LW.assign rfl rfl ?_
      refine LW.nil ?_
      refine NW.block ?_
      refine NW.meet ((⟨g.serial + 1, g.area, g.length, g.recs ++ [textB z 1]⟩, d2)) ?j1 ?e1 ?h1
      case j1 => exact ⟨⟨hr2, hf2, hl2, by dsimp only; rw [hua, hug]; omega⟩, by dsimp only; rw [hua, hug]; omega⟩
      case e1 => repeat (first | exact Env.Le.nil _ | refine Env.Le.cons rfl ?_)
      case h1 => repeat (first | exact Sub.heap_nil _ | exact Sub.refl _ | refine Sub.heap_cons (Take.none _) ?_ | refine Sub.heap_cons (by repeat (first | exact Take.head _ _ | apply Take.tail)) ?_)
    · refine LW.on 38 rfl rfl ?_
      refine LW.geq false rfl rfl (decide_eq_false (by omega)) rfl ?_
      refine LW.pickT rfl rfl rfl ?_
      refine LW.nil ?_
      refine NW.then_ ?_
      refine CW.cond_false rfl ?_
      refine CW.exit ?_
      refine NW.then_exit ?_
      refine NW.then_exit ?_
      refine NW.block_exit ?_
      refine NW.then_ ?_
      refine CW.cut (fun st : LogS × DevS => [(6, .pointer (some ⟨l, 0, none⟩)), (0, .int .i64 (n : Int)), (1, .int .i64 (z : Int))]) (fun st => [[logR l q p st.1.log], [slC q p st.1.serial false], devC p bn bw bl n st.2]) (fun st => Rest n st.2 ∧ st.1.Fine n ∧ LogAt st.2.N st.1 ∧ st.1.serial ≤ 1 + (st.1.used : Int)) ?cut15_1 ?cut15_2
      case cut15_1 =>
        refine CW.seq ?_
        refine CW.region ?_
        refine LW.move rfl rfl ?_
        refine LW.call (wal_Room W B l q p bn bw bl n d (by omega) (by omega) g.log (by show g.used ≤ _; omega)) Tryd.func24 rfl FactsLawLogFull.fname24 ⟨rfl, trivial⟩ (Take.both (by repeat (first | exact Take.head _ _ | apply Take.tail)) (by repeat (first | exact Take.head _ _ | apply Take.tail))) rfl ?_
        rintro _ _ ⟨rfl, rfl⟩; refine LW.split2 ?_
        refine LW.move rfl rfl ?_
        refine LW.neq false rfl rfl (bne_eq_false_iff_eq.2 rfl) rfl ?_
        refine LW.move rfl rfl ?_
        refine LW.on 57 rfl rfl ?_
        refine LW.move rfl rfl ?_
        refine LW.on 57 rfl rfl ?_
        refine LW.move rfl rfl ?_
        refine LW.on 57 rfl rfl ?_
        refine LW.call (law_text' W B z (by omega) 2) Tryd.func26 rfl FactsLawLogFull.fname26 ⟨rfl, rfl, trivial⟩ (Take.none _) rfl ?_
        rintro _ _ ⟨b2, rfl, rfl⟩
        refine LW.on 57 rfl rfl ?_
        refine LW.call (wal_Append_no W B l q p bn bw bl n d hr hf (textB z 2) (by rw [textB_len]; omega) 5 (.inr ⟨rfl, htl _, by rw [textB_len]; omega⟩) [cr b2 5 ((textB z 2).map u8v)] (some ⟨b2, 0, none⟩) (textB z 2).length (srcText W B _ _)) Tryd.func25 rfl FactsLawLogFull.fname25 ⟨rfl, rfl, trivial⟩ (Take.both (by repeat (first | exact Take.head _ _ | apply Take.tail)) (Take.both (Take.both (by repeat (first | exact Take.head _ _ | apply Take.tail)) (by repeat (first | exact Take.head _ _ | apply Take.tail))) (by repeat (first | exact Take.head _ _ | apply Take.tail)))) rfl ?_
        rintro _ _ ⟨rfl, rfl⟩; refine LW.split2 (LW.split2p (LW.split2p ?_))
        refine LW.on 57 rfl rfl ?_
        refine LW.neq false rfl rfl (bne_eq_false_iff_eq.2 (by omega)) rfl ?_
        refine LW.pickF rfl rfl rfl ?_
        refine LW.move rfl rfl ?_
        refine LW.on 64 rfl rfl ?_
        refine LW.move rfl rfl ?_
        by_cases h3 : g.used + 3 ≤ ringN n
        · refine LW.on 64 rfl rfl ?_
          refine LW.geq true rfl rfl (decide_eq_true (by omega)) rfl ?_
          refine LW.on 64 rfl rfl ?_
          refine LW.move rfl rfl ?_
          refine LW.on 67 rfl rfl ?_
          refine LW.move rfl rfl ?_
          refine LW.on 67 rfl rfl ?_
          refine LW.sub64 rfl rfl (by omega) (by omega) rfl ?_
          by_cases h4 : ringN n ≤ g.used + 1002
          · refine LW.on 67 rfl rfl ?_
            refine LW.leq true rfl rfl (decide_eq_true (by omega)) rfl ?_
            refine LW.on 64 rfl rfl ?_
            refine LW.pickT rfl rfl rfl ?_
            refine LW.on 64 rfl rfl ?_
            refine LW.move rfl rfl ?_
            refine LW.on 72 rfl rfl ?_
            refine LW.move rfl rfl ?_
            refine LW.on 72 rfl rfl ?_
            refine LW.move rfl rfl ?_
            refine LW.on 72 rfl rfl ?_
            refine LW.sub (((ringN n - g.used - 2 : Nat) : Int)) rfl rfl (by exact wr64 (by omega) (by omega) (by omega)) rfl ?_
            refine LW.on 72 rfl rfl ?_
            obtain ⟨y, hy⟩ : ∃ y, y = ringN n - g.used - 2 := ⟨_, rfl⟩
            rw [← hy]
            have hty : okRec (textB y 3) := ⟨by rw [textB_len]; omega, by rw [textB_len]; omega⟩
            refine LW.call (law_text' W B y (by omega) 3) Tryd.func26 rfl FactsLawLogFull.fname26 ⟨rfl, rfl, trivial⟩ (Take.none _) rfl ?_
            rintro _ _ ⟨b3, rfl, rfl⟩
            refine LW.on 72 rfl rfl ?_
            refine LW.call (wal_Append_ok W B l q p bn bw bl n d hr hf hl (by omega) (textB y 3) hty (by rw [textB_len]; omega) [cr b3 5 ((textB y 3).map u8v)] (some ⟨b3, 0, none⟩) (textB y 3).length (srcText W B _ _)) Tryd.func25 rfl FactsLawLogFull.fname25 ⟨rfl, rfl, trivial⟩ (Take.both (by repeat (first | exact Take.head _ _ | apply Take.tail)) (Take.both (Take.both (by repeat (first | exact Take.head _ _ | apply Take.tail)) (by repeat (first | exact Take.head _ _ | apply Take.tail))) (by repeat (first | exact Take.head _ _ | apply Take.tail)))) rfl ?_
            rintro _ _ ⟨rfl, d2, hr2, hf2, hl2, _, rfl⟩; refine LW.split2 (LW.split2p (LW.split2p ?_))
            refine LW.on 72 rfl rfl ?_
            refine LW.neq false rfl rfl (bne_eq_false_iff_eq.2 (by omega)) rfl ?_
            refine LW.on 64 rfl rfl ?_
            refine LW.pickT rfl rfl rfl ?_
            refine LW.pickF rfl rfl rfl ?_
            refine LW.nil ?_
            refine NW.then_ ?_
            refine CW.cond_false rfl ?_
            refine CW.skip ?_
            refine NW.meet ((⟨g.serial + 1, g.area, g.length, g.recs ++ [textB y 3]⟩, d2)) ?j2 ?e2 ?h2
            case j2 => exact ⟨hr2, hf2, hl2, by dsimp only; rw [used_app, show LogS.used ⟨g.serial + 1, g.area, g.length, g.recs⟩ = g.used from rfl]; omega⟩
            case e2 => repeat (first | exact Env.Le.nil _ | refine Env.Le.cons rfl ?_)
            case h2 => repeat (first | exact Sub.heap_nil _ | exact Sub.refl _ | refine Sub.heap_cons (Take.none _) ?_ | refine Sub.heap_cons (by repeat (first | exact Take.head _ _ | apply Take.tail)) ?_)
          · refine LW.on 67 rfl rfl ?_
            refine LW.leq false rfl rfl (decide_eq_false (by omega)) rfl ?_
            refine LW.on 64 rfl rfl ?_
            refine LW.pickT rfl rfl rfl ?_
            refine LW.on 64 rfl rfl ?_
            refine LW.move rfl rfl ?_
            refine LW.off 72 rfl rfl rfl rfl ?_
            refine LW.off 72 rfl rfl rfl rfl ?_
            refine LW.off 72 rfl rfl rfl rfl ?_
            refine LW.off 72 rfl rfl rfl rfl ?_
            refine LW.off 72 rfl rfl rfl rfl ?_
            refine LW.off 72 rfl rfl rfl rfl ?_
            refine LW.on 64 rfl rfl ?_
            refine LW.pickF rfl rfl rfl ?_
            refine LW.pickF rfl rfl rfl ?_
            refine LW.nil ?_
            refine NW.then_ ?_
            refine CW.cond_false rfl ?_
            refine CW.skip ?_
            refine NW.meet ((g, d)) ?j3 ?e3 ?h3
            case j3 => exact ⟨hr, hf, hl, hse⟩
            case e3 => repeat (first | exact Env.Le.nil _ | refine Env.Le.cons rfl ?_)
            case h3 => repeat (first | exact Sub.heap_nil _ | exact Sub.refl _ | refine Sub.heap_cons (Take.none _) ?_ | refine Sub.heap_cons (by repeat (first | exact Take.head _ _ | apply Take.tail)) ?_)
        · refine LW.on 64 rfl rfl ?_
          refine LW.geq false rfl rfl (decide_eq_false (by omega)) rfl ?_
          refine LW.on 64 rfl rfl ?_
          refine LW.move rfl rfl ?_
          refine LW.off 67 rfl rfl rfl rfl ?_
          refine LW.off 67 rfl rfl rfl rfl ?_
          refine LW.off 67 rfl rfl rfl rfl ?_
          refine LW.on 64 rfl rfl ?_
          refine LW.pickF rfl rfl rfl ?_
          refine LW.on 64 rfl rfl ?_
          refine LW.move rfl rfl ?_
          refine LW.off 72 rfl rfl rfl rfl ?_
          refine LW.off 72 rfl rfl rfl rfl ?_
          refine LW.off 72 rfl rfl rfl rfl ?_
          refine LW.off 72 rfl rfl rfl rfl ?_
          refine LW.off 72 rfl rfl rfl rfl ?_
          refine LW.off 72 rfl rfl rfl rfl ?_
          refine LW.on 64 rfl rfl ?_
          refine LW.pickF rfl rfl rfl ?_
          refine LW.pickF rfl rfl rfl ?_
          refine LW.nil ?_
          refine NW.then_ ?_
          refine CW.cond_false rfl ?_
          refine CW.skip ?_
          refine NW.meet ((g, d)) ?j4 ?e4 ?h4
          case j4 => exact ⟨hr, hf, hl, hse⟩
          case e4 => repeat (first | exact Env.Le.nil _ | refine Env.Le.cons rfl ?_)
          case h4 => repeat (first | exact Sub.heap_nil _ | exact Sub.refl _ | refine Sub.heap_cons (Take.none _) ?_ | refine Sub.heap_cons (by repeat (first | exact Take.head _ _ | apply Take.tail)) ?_)
      case cut15_2 =>
        rintro ⟨g, d⟩ ⟨hr, hf, hl, hse⟩; dsimp only at hr hf hl hse; have hfit := hf.fits
        try dsimp only
        refine CW.seq ?_
        refine CW.region ?_
        refine LW.move rfl rfl ?_
        refine LW.call (wal_Reset_ok W B l q p bn bw bl n d hr hf hl (by omega) 0 0 ⟨by decide, by decide⟩ ⟨by decide, by decide⟩) Tryd.func27 rfl FactsLawLogFull.fname27 ⟨rfl, rfl, rfl, trivial⟩ (Take.both (Take.both (by repeat (first | exact Take.head _ _ | apply Take.tail)) (by repeat (first | exact Take.head _ _ | apply Take.tail))) (by repeat (first | exact Take.head _ _ | apply Take.tail))) rfl ?_
        rintro _ _ ⟨rfl, d5, hr5, hf5, hl5, _, rfl⟩; refine LW.split2 (LW.split2 ?_)
        refine LW.eql true rfl rfl (beq_iff_eq.2 (by omega)) rfl ?_
        refine LW.move rfl rfl ?_
        refine LW.on 84 rfl rfl ?_
        refine LW.move rfl rfl ?_
        refine LW.on 84 rfl rfl ?_
        refine LW.call (wal_Room W B l q p bn bw bl n d5 (by omega) (by omega) (LogS.log ⟨g.serial + 1, 0, 0, []⟩) (Nat.zero_le _)) Tryd.func24 rfl FactsLawLogFull.fname24 ⟨rfl, trivial⟩ (Take.both (by repeat (first | exact Take.head _ _ | apply Take.tail)) (by repeat (first | exact Take.head _ _ | apply Take.tail))) rfl ?_
        rintro _ _ ⟨rfl, rfl⟩; refine LW.split2 ?_
        refine LW.on 84 rfl rfl ?_
        refine LW.move rfl rfl ?_
        refine LW.on 84 rfl rfl ?_
        refine LW.quoN rfl rfl (by omega) (by omega) rfl ?_
        refine LW.on 84 rfl rfl ?_
        refine LW.sub64 rfl rfl (by omega) (by omega) rfl ?_
        refine LW.on 84 rfl rfl ?_
        refine LW.mul ((ringN n : Int)) rfl rfl (ring_wrap n (by omega) (by omega)) rfl ?_
        refine LW.on 84 rfl rfl ?_
        refine LW.eql true rfl rfl (beq_iff_eq.2 (show (ringN n : Int) - ((0 : Nat) : Int) = _ by omega)) rfl ?_
        refine LW.pickT rfl rfl rfl ?_
        refine LW.move rfl rfl ?_
        refine LW.on 93 rfl rfl ?_
        refine LW.move rfl rfl ?_
        refine LW.on 93 rfl rfl ?_
        refine LW.move rfl rfl ?_
        refine LW.on 93 rfl rfl ?_
        refine LW.call (law_text' W B z (by omega) 4) Tryd.func26 rfl FactsLawLogFull.fname26 ⟨rfl, rfl, trivial⟩ (Take.none _) rfl ?_
        rintro _ _ ⟨b4, rfl, rfl⟩
        refine LW.on 93 rfl rfl ?_
        refine LW.call (wal_Append_ok W B l q p bn bw bl n d5 hr5 hf5 hl5 (by dsimp only; omega) (textB z 4) (htl _) (by rw [textB_len, used_nil]; unfold ringN; omega) [cr b4 5 ((textB z 4).map u8v)] (some ⟨b4, 0, none⟩) (textB z 4).length (srcText W B _ _)) Tryd.func25 rfl FactsLawLogFull.fname25 ⟨rfl, rfl, trivial⟩ (Take.both (by repeat (first | exact Take.head _ _ | apply Take.tail)) (Take.both (Take.both (by repeat (first | exact Take.head _ _ | apply Take.tail)) (by repeat (first | exact Take.head _ _ | apply Take.tail))) (by repeat (first | exact Take.head _ _ | apply Take.tail)))) rfl ?_
        rintro _ _ ⟨rfl, d6, hr6, hf6, hl6, _, rfl⟩; refine LW.split2 (LW.split2p (LW.split2p ?_))
        refine LW.on 93 rfl rfl ?_
        refine LW.eql true rfl rfl (beq_iff_eq.2 (by omega)) rfl ?_
        refine LW.pickT rfl rfl rfl ?_
        refine LW.move rfl rfl ?_
        refine LW.on 100 rfl rfl ?_
        refine LW.move rfl rfl ?_
        refine LW.on 100 rfl rfl ?_
        refine LW.call (law_text' W B 1001 (by decide) 1) Tryd.func26 rfl FactsLawLogFull.fname26 ⟨rfl, rfl, trivial⟩ (Take.none _) rfl ?_
        rintro _ _ ⟨b7, rfl, rfl⟩
        refine LW.on 100 rfl rfl ?_
        refine LW.call (wal_Append_no W B l q p bn bw bl n d6 hr6 hf6 (textB 1001 1) (by rw [textB_len]; omega) 1 (.inl ⟨rfl, fun h => by have := h.2; rw [textB_len] at this; omega⟩) [cr b7 5 ((textB 1001 1).map u8v)] (some ⟨b7, 0, none⟩) (textB 1001 1).length (srcText W B _ _)) Tryd.func25 rfl FactsLawLogFull.fname25 ⟨rfl, rfl, trivial⟩ (Take.both (by repeat (first | exact Take.head _ _ | apply Take.tail)) (Take.both (Take.both (by repeat (first | exact Take.head _ _ | apply Take.tail)) (by repeat (first | exact Take.head _ _ | apply Take.tail))) (by repeat (first | exact Take.head _ _ | apply Take.tail)))) rfl ?_
        rintro _ _ ⟨rfl, rfl⟩; refine LW.split2 (LW.split2p (LW.split2p ?_))
        refine LW.on 100 rfl rfl ?_
        refine LW.eql true rfl rfl (beq_iff_eq.2 (by omega)) rfl ?_
        refine LW.pickT rfl rfl rfl ?_
        refine LW.move rfl rfl ?_
        refine LW.on 106 rfl rfl ?_
        refine LW.move rfl rfl ?_
        refine LW.on 106 rfl rfl ?_
        refine LW.call (wal_Append_no W B l q p bn bw bl n d6 hr6 hf6 [] (by simp) 1 (.inl ⟨rfl, fun h => by have := h.1; simp at this⟩) [] none 0 Src.nil) Tryd.func25 rfl FactsLawLogFull.fname25 ⟨rfl, rfl, trivial⟩ (Take.both (Take.none _) (Take.both (Take.both (by repeat (first | exact Take.head _ _ | apply Take.tail)) (by repeat (first | exact Take.head _ _ | apply Take.tail))) (by repeat (first | exact Take.head _ _ | apply Take.tail)))) rfl ?_
        rintro _ _ ⟨rfl, rfl⟩; refine LW.split2 (LW.split2p (LW.split2p ?_))
        refine LW.on 106 rfl rfl ?_
        refine LW.eql true rfl rfl (beq_iff_eq.2 (by omega)) rfl ?_
        refine LW.pickT rfl rfl rfl ?_
        refine LW.assign rfl rfl ?_
        refine LW.nil ?_
        refine NW.then_ ?_
        refine CW.ret ?_
        refine NW.ret1 rfl rfl ⟨_, ⟨rfl, rfl⟩, ?_⟩
        exact Sub.nil _
end
end Go.Proofs.YtpnhonhjheahhaaDoor
