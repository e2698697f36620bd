/-
  LogOn, walked.
-/
import Derived.Test.YtpnhonhjheahhaaDoorFuz5
namespace Go.Proofs.YtpnhonhjheahhaaDoor
open Go.RowKit
namespace FactsLawLogOn
theorem fname21 : (Tryd.f21.name == "runtime.NumGoroutine") = false := by kernel_rfl
theorem fname22 : (Tryd.f22.name == "runtime.NumGoroutine") = false := by kernel_rfl
theorem fname23 : (Tryd.f23.name == "runtime.NumGoroutine") = false := by kernel_rfl
theorem fname25 : (Tryd.f25.name == "runtime.NumGoroutine") = false := by kernel_rfl
theorem fname26 : (Tryd.f26.name == "runtime.NumGoroutine") = false := by kernel_rfl
theorem fname28 : (Tryd.f28.name == "runtime.NumGoroutine") = false := by kernel_rfl
theorem fname29 : (Tryd.f29.name == "runtime.NumGoroutine") = false := by kernel_rfl
theorem fname30 : (Tryd.f30.name == "runtime.NumGoroutine") = false := by kernel_rfl
theorem fname41 : (Tryd.f41.name == "runtime.NumGoroutine") = false := by kernel_rfl
theorem info31 : (Tryd.prog.info? 31).map (fun i => (i.zero, i.size, i.bytes)) = some (some (.slice none 0 0), 1, 24) := by kernel_rfl
theorem info58 : (Tryd.prog.info? 58).map (fun i => (i.zero, i.size, i.bytes)) = some (some (.slice none 0 0), 1, 24) := by kernel_rfl
theorem ixs58 : (Tryd.prog.info? 3).map (·.size) = some 1 := by kernel_rfl
theorem ixs77 : (Tryd.prog.info? 58).map (·.size) = some 1 := by kernel_rfl
theorem one3 : oneB Tryd.prog 3 = true := by kernel_rfl
theorem one58 : oneB Tryd.prog 58 = true := by kernel_rfl
end FactsLawLogOn
structure OnSt where
  r : Nat
  g : LogS
  d : DevS
  p : Nat
  bn : Nat
  bw : Nat
  bl : Nat
  l : Nat
  q : Nat
  v : Value
  vs : List Value
  ch : List Row
  rr : List Row
section
variable (W : World) (B : Nat)
set_option maxHeartbeats 4000000 in
theorem law_LogOn (h0 : 0 < B) (hg : W.cell? ⟨0, 0, none⟩ = some (rty 110)) (A : Option Addr) (cp : Nat) (a : List Int) (hA : Src W B [] A (a.map i64v)) (A1 : Option Addr) (cp1 : Nat) (b : List Int) (hA1 : Src W B [] A1 (b.map i64v)) (z : Int) (A2 : Option Addr) (cp2 : Nat) (keep : List Bool) (hsrc : Src W B [] A2 (keep.map .bool)) :
    Spec Tryd.prog W B 19 [.slice A a.length cp, .slice A1 b.length cp1, .int .i64 z, .slice A2 keep.length cp2] [] (fun v post => v = .bool true ∧ post = []) := by
  obtain ⟨m, hm, hm2, hx1, hx2⟩ := mod_pos z 4 (by decide) (by decide)
  have hr0 := Rest.zero (n := 128) (by omega) (by omega)
  have hs0 := zero_slot 128 (by omega)
  refine Spec.enter ([]) Tryd.func19 rfl Tryd.ntmps19 rfl (by first | rfl | simp) (fun w0 => ?_)
  refine CW.seq ?_
  refine CW.region ?_
  refine LW.assign rfl rfl ?_
  refine LW.nil ?_
  refine NW.then_ ?_
  refine CW.seq ?_
  refine CW.region ?_
  refine LW.call (law_begun4 W B h0 hg) Tryd.func21 rfl FactsLawLogOn.fname21 trivial (Take.none _) rfl ?_
  rintro _ _ ⟨rfl, rfl⟩
  refine LW.assign rfl rfl ?_
  refine LW.nil ?_
  refine NW.then_ ?_
  refine CW.seq ?_
  refine CW.seq ?_
  refine CW.region ?_
  refine LW.move rfl rfl ?_
  refine LW.not (false) rfl (rfl) rfl ?_
  refine LW.nil ?_
  refine NW.then_ ?_
  refine CW.cond_false rfl ?_
  refine CW.skip ?_
  refine NW.then_ ?_
  refine CW.seq ?_
  have hrn : ringN 128 = 3968 := rfl
  refine CW.region ?_
  refine LW.call (dev_New W B 128 (by omega) (by omega)) Tryd.func23 rfl FactsLawLogOn.fname23 ⟨rfl, trivial⟩ (Take.none _) rfl ?_
  rintro _ _ ⟨p, bn, bw, bl, rfl, rfl⟩
  refine LW.assign rfl rfl ?_
  refine LW.nil ?_
  refine NW.then_ ?_
  refine CW.seq ?_
  generalize DevS.zero 128 = d0 at hr0 hs0 ⊢
  refine CW.region ?_
  refine LW.move rfl rfl ?_
  refine LW.call (wal_Make_ok W B p bn bw bl 128 d0 hr0.ok hr0.up (hold_slot hr0.flat (by omega) hs0) (by decide)) Tryd.func22 rfl FactsLawLogOn.fname22 ⟨rfl, trivial⟩ (by repeat (first | exact Take.head _ _ | apply Take.tail)) rfl ?_
  rintro _ _ ⟨l, q, d1, rfl, hr1, hf1, hl1, _, rfl⟩; refine LW.split2 ?_
  refine LW.move rfl rfl ?_
  refine LW.extract rfl rfl rfl ?_
  refine LW.extract rfl rfl rfl ?_
  refine LW.assign rfl rfl ?_
  refine LW.assign rfl rfl ?_
  refine LW.nil ?_
  refine NW.then_ ?_
  refine CW.seq ?_
  refine CW.seq ?_
  refine CW.region ?_
  refine LW.move rfl rfl ?_
  refine LW.neq false rfl rfl (bne_eq_false_iff_eq.2 (by omega)) rfl ?_
  refine LW.nil ?_
  refine NW.then_ ?_
  refine CW.cond_false rfl ?_
  refine CW.skip ?_
  refine NW.then_ ?_
  refine CW.seq ?_
  refine CW.region ?_
  refine LW.assign rfl rfl ?_
  refine LW.nil ?_
  refine NW.then_ ?_
  refine CW.seq ?_
  refine CW.seq ?_
  refine CW.region ?_
  refine LW.move rfl rfl ?_
  refine LW.move rfl rfl ?_
  refine LW.buildSlice (vs := [_, _]) ⟨rfl, rfl, trivial⟩ rfl (by intro v hv; simp at hv; rcases hv with rfl | rfl <;> rfl) Tryd.underlying77 FactsLawLogOn.info58 rfl (by decide) (by decide) rfl ?_
  intro bs32
  refine LW.lenSlice rfl Tryd.underlying77 rfl ?_
  refine LW.move rfl rfl ?_
  refine LW.nil ?_
  refine NW.then_ ?_
  refine CW.block ?_
  refine CW.loop (fun st : OnSt => [(34, .int .i64 (st.r : Int)), (33, .int .i64 2), (32, .slice (some ⟨bs32, 0, none⟩) 2 2), (13, st.v), (11, .pointer (some ⟨st.l, 0, none⟩)), (10, .pointer (some ⟨st.p, 0, none⟩)), (2, .int .i64 z), (3, .slice A2 keep.length cp2)]) (fun st => [[cr bs32 58 [.slice A a.length cp, .slice A1 b.length cp1]], logC st.l st.q st.p st.g.log, devC st.p st.bn st.bw st.bl 128 st.d, st.ch, st.rr]) (fun st => st.r ≤ 2 ∧ Rest 128 st.d ∧ st.g.Fine 128 ∧ LogAt st.d.N st.g ∧ st.g.serial ≤ 1 + 10 * (st.r : Int) ∧ st.g.recs.length ≤ 10 * st.r ∧ st.g.used ≤ st.r * 620 ∧ OwnS 31 1 st.v st.g.recs.length st.vs st.ch ∧ RecsAt W B st.rr st.vs st.g.recs) (fun st => 2 - st.r) ⟨0, ⟨0 + 1, 0, 0, []⟩, d1, p, bn, bw, bl, l, q, .slice none 0 0, [], [], []⟩ ?st10_j ?st10_e ?st10_h ?st10_r
  case st10_j => exact ⟨Nat.zero_le _, hr1, hf1, hl1, by dsimp only; omega, Nat.zero_le _, Nat.zero_le _, OwnS.nil, RecsAt.nil⟩
  case st10_e => repeat (first | exact Env.Le.nil _ | refine Env.Le.cons rfl ?_)
  case st10_h => repeat (first | exact Sub.heap_nil _ | exact Sub.refl _ | refine Sub.heap_cons (Take.none _) ?_ | refine Sub.heap_cons (by repeat (first | exact Take.head _ _ | apply Take.tail)) ?_)
  case st10_r =>
    clear hr1 hf1 hl1 hr0 hs0; rintro ⟨r, g, d, p, bn, bw, bl, l, q, v, vs, ch, rr⟩ ⟨hr2, hr, hf, hl, hse, hlen, hus, ho, hra⟩; dsimp only at hr2 hr hf hl hse hlen hus ho hra
    try dsimp only
    refine CW.seq ?_
    refine CW.region ?_
    refine LW.lss (decide ((r : Int) < 2)) rfl rfl (rfl) rfl ?_
    refine LW.nil ?_
    refine NW.then_ ?_
    refine CW.seq ?_
    refine CW.cond rfl (fun hc35 => ?_) (fun hc35 => ?_)
    · replace hc35 := of_decide_eq_true hc35
      try dsimp only at hc35
      have hrl : r < 2 := by omega
      obtain ⟨X, cx, xs, hgx, hX⟩ : ∃ X cx, ∃ xs : List Int, [Value.slice A a.length cp, Value.slice A1 b.length cp1][r]? = some (Value.slice X xs.length cx) ∧ Src W B [] X (xs.map i64v) := by
        rcases (show r = 0 ∨ r = 1 by omega) with rfl | rfl
        · exact ⟨A, cp, a, rfl, hA⟩
        · exact ⟨A1, cp1, b, rfl, hA1⟩
      have hR32 : Src W B [cr bs32 58 [.slice A a.length cp, .slice A1 b.length cp1]] (some ⟨bs32, 0, none⟩) [.slice A a.length cp, .slice A1 b.length cp1] := Src.row (fun j v hj => by rw [Nat.zero_add]; exact hj)
      refine CW.skip ?_
      refine NW.then_ ?_
      refine CW.seq ?_
      refine CW.block ?_
      refine CW.seq ?_
      refine CW.region ?_
      refine LW.move rfl rfl ?_
      refine LW.indexAt rfl rfl Tryd.underlying77 FactsLawLogOn.ixs77 (by omega) (by omega) rfl ?_
      refine LW.loadRd (v := .slice X xs.length cx) rfl (hR32.rd (by repeat (first | exact Take.head _ _ | apply Take.tail))) (by rw [Int.toNat_natCast, Nat.mul_one]; exact hgx) FactsLawLogOn.one58 rfl ?_
      refine LW.assign rfl rfl ?_
      refine LW.assign rfl rfl ?_
      refine LW.nil ?_
      refine NW.then_ ?_
      refine CW.seq ?_
      refine CW.seq ?_
      refine CW.region ?_
      refine LW.assign rfl rfl ?_
      refine LW.nil ?_
      refine NW.then_ ?_
      refine CW.block ?_
      refine CW.loop (fun st : Nat × LogS × DevS × Value × List Value × List Row × List Row => [(16, .int .i64 (st.1 : Int)), (15, .slice X xs.length cx), (14, .int .i64 (r : Int)), (34, .int .i64 (r : Int)), (33, .int .i64 2), (32, .slice (some ⟨bs32, 0, none⟩) 2 2), (13, st.2.2.2.1), (11, .pointer (some ⟨l, 0, none⟩)), (10, .pointer (some ⟨p, 0, none⟩)), (2, .int .i64 z), (3, .slice A2 keep.length cp2)]) (fun st => [[cr bs32 58 [.slice A a.length cp, .slice A1 b.length cp1]], logC l q p st.2.1.log, devC p bn bw bl 128 st.2.2.1, st.2.2.2.2.2.1, st.2.2.2.2.2.2]) (fun st => st.1 ≤ 10 ∧ Rest 128 st.2.2.1 ∧ st.2.1.Fine 128 ∧ LogAt st.2.2.1.N st.2.1 ∧ st.2.1.serial ≤ 1 + 10 * (r : Int) + (st.1 : Int) ∧ st.2.1.recs.length ≤ 10 * r + st.1 ∧ st.2.1.used ≤ r * 620 + st.1 * 62 ∧ OwnS 31 1 st.2.2.2.1 st.2.1.recs.length st.2.2.2.2.1 st.2.2.2.2.2.1 ∧ RecsAt W B st.2.2.2.2.2.2 st.2.2.2.2.1 st.2.1.recs) (fun st => 10 - st.1) (0, g, d, v, vs, ch, rr) ?st13_j ?st13_e ?st13_h ?st13_r
      case st13_j => exact ⟨Nat.zero_le _, hr, hf, hl, by dsimp only; omega, by dsimp only; omega, by dsimp only; rw [Nat.zero_mul, Nat.add_zero]; exact hus, ho, hra⟩
      case st13_e => repeat (first | exact Env.Le.nil _ | refine Env.Le.cons rfl ?_)
      case st13_h => repeat (first | exact Sub.heap_nil _ | exact Sub.refl _ | refine Sub.heap_cons (Take.none _) ?_ | refine Sub.heap_cons (by repeat (first | exact Take.head _ _ | apply Take.tail)) ?_)
      case st13_r =>
        clear hr hf hl hse hlen hus ho hra; rintro ⟨i, g, e, v, vs, ch, rr⟩ ⟨hin, her, hef, hel, hes, hlen, hus, ho, hra⟩; dsimp only at hin her hef hel hes hlen hus ho hra
        try dsimp only
        refine CW.seq ?_
        refine CW.seq ?_
        refine CW.region ?_
        refine LW.move rfl rfl ?_
        refine LW.move rfl rfl ?_
        refine LW.lenSlice rfl Tryd.underlying58 rfl ?_
        by_cases hil : i < xs.length
        · refine LW.lss true rfl rfl (decide_eq_true (by omega)) rfl ?_
          refine LW.move rfl rfl ?_
          refine LW.on 43 rfl rfl ?_
          refine LW.move rfl rfl ?_
          by_cases hi10 : i < 10
          · refine LW.on 43 rfl rfl ?_
            refine LW.lss true rfl rfl (decide_eq_true (by omega)) rfl ?_
            refine LW.pickT rfl rfl rfl ?_
            refine LW.nil ?_
            refine NW.then_ ?_
            refine CW.cond_true rfl ?_
            refine CW.skip ?_
            refine NW.then_ ?_
            refine CW.seq ?_
            refine CW.block ?_
            refine CW.seq ?_
            obtain ⟨x0, rfl⟩ : ∃ a, X = some a := hX.some (by rw [List.length_map]; omega)
            have hgi : (xs.map i64v)[i]? = some (.int .i64 (xs.getD i 0)) := by simp [List.getD, List.getElem?_eq_getElem hil, i64v]
            obtain ⟨k, hk, hk2, hu1, hu2⟩ := mod_pos (xs.getD i 0) 60 (by decide) (by decide)
            generalize xs.getD i 0 = x at hgi hk hu1 hu2
            refine CW.region ?_
            refine LW.move rfl rfl ?_
            refine LW.move rfl rfl ?_
            refine LW.indexAt rfl rfl Tryd.underlying58 FactsLawLogOn.ixs58 (by omega) (by omega) rfl ?_
            refine LW.loadRd (v := .int .i64 x) rfl (hX.rd (Take.none _)) (by simpa using hgi) FactsLawLogOn.one3 rfl ?_
            refine LW.rem (x.tmod 60) rfl rfl (by decide) (rfl) rfl ?_
            refine LW.add (x.tmod 60 + 60) rfl rfl (by first | rfl | exact wr64 (by omega) (by omega) (by omega)) rfl ?_
            refine LW.rem ((k : Int)) rfl rfl (by decide) (hk) rfl ?_
            refine LW.add (((1 + k : Nat) : Int)) rfl rfl (by first | rfl | exact wr64 (by omega) (by omega) (by omega)) rfl ?_
            refine LW.move rfl rfl ?_
            refine LW.move rfl rfl ?_
            refine LW.add (((i + r : Nat) : Int)) rfl rfl (by first | rfl | exact wr64 (by omega) (by omega) (by omega)) rfl ?_
            refine LW.convInt (((UInt8.ofNat (i + r)).toNat : Int)) rfl Tryd.underlying3 Tryd.underlying5 (u8_conv _) rfl ?_
            refine LW.call (law_text' W B (1 + k) (by omega) (UInt8.ofNat (i + r))) Tryd.func26 rfl FactsLawLogOn.fname26 ⟨rfl, rfl, trivial⟩ (Take.none _) rfl ?_
            rintro _ _ ⟨b1, rfl, rfl⟩
            refine LW.assign rfl rfl ?_
            refine LW.nil ?_
            refine NW.then_ ?_
            refine CW.seq ?_
            refine CW.seq ?_
            have htz := textB_len (1 + k) (UInt8.ofNat (i + r))
            generalize textB (1 + k) (UInt8.ofNat (i + r)) = t at htz ⊢
            refine CW.region ?_
            refine LW.move rfl rfl ?_
            refine LW.move rfl rfl ?_
            refine LW.call (wal_Append_ok W B l q p bn bw bl 128 e her hef hel (by omega) t ⟨by omega, by omega⟩ (by omega) [cr b1 5 (t.map u8v)] (some ⟨b1, 0, none⟩) t.length (srcText W B _ _)) Tryd.func25 rfl FactsLawLogOn.fname25 ⟨rfl, rfl, trivial⟩ (Take.both (by repeat (first | exact Take.head _ _ | apply Take.tail)) (Take.both (by repeat (first | exact Take.head _ _ | apply Take.tail)) (by repeat (first | exact Take.head _ _ | apply Take.tail)))) rfl ?_
            rintro _ _ ⟨rfl, e2, her2, hef2, hel2, _, rfl⟩; refine LW.split2 (LW.split2p ?_)
            refine LW.neq false rfl rfl (bne_eq_false_iff_eq.2 (by omega)) rfl ?_
            refine LW.nil ?_
            refine NW.then_ ?_
            refine CW.cond_false rfl ?_
            refine CW.skip ?_
            refine NW.then_ ?_
            refine CW.region ?_
            refine LW.move rfl rfl ?_
            refine LW.move rfl rfl ?_
            refine LW.buildSlice (vs := [_]) ⟨rfl, trivial⟩ rfl (by intro v hv; simp at hv; subst hv; rfl) Tryd.underlying36 FactsLawLogOn.info31 rfl (by decide) (by decide) rfl ?_
            intro bs68
            refine LW.append ([.slice (some ⟨b1, 0, none⟩) t.length t.length]) rfl rfl Tryd.underlying36 Tryd.underlying36 (.inr ⟨_, rfl⟩) FactsLawLogOn.info31 rfl (ho) (by repeat (first | exact Take.head _ _ | apply Take.tail)) (fun _ => lenOf_slice _ _ _ _) (first_rd (RdAt.row (by repeat (first | exact Take.head _ _ | apply Take.tail)) (fun j v hj => by rw [Nat.zero_add]; exact hj)) rfl (fun h => (by cases h))) (rfl) (by intro u hu; simp at hu; subst hu; rfl) (by omega) (by omega) rfl ?_
            intro v6 ch6 ho6
            refine LW.assign rfl rfl ?_
            refine LW.nil ?_
            refine NW.block ?_
            refine NW.then_ ?_
            refine CW.region ?_
            refine LW.move rfl rfl ?_
            refine LW.add ((i + 1 : Int)) rfl rfl (by first | rfl | exact wr64 (by omega) (by omega) (by omega)) rfl ?_
            refine LW.assign rfl rfl ?_
            refine LW.nil ?_
            refine NW.meet ((i + 1, ⟨g.serial + 1, g.area, g.length, g.recs ++ [t]⟩, e2, v6, vs ++ [.slice (some ⟨b1, 0, none⟩) t.length t.length], ch6, [cr b1 5 (t.map u8v)] ++ rr)) ?j1 ?e1 ?h1
            case j1 => exact ⟨⟨by dsimp only; omega, her2, hef2, hel2, by dsimp only; omega, by simp; omega, by dsimp only; rw [used_app, show LogS.used ⟨g.serial + 1, g.area, g.length, g.recs⟩ = g.used from rfl]; omega, by rw [List.length_append]; exact ho6, (hra.more (fun x hx => List.mem_append_right _ hx)).app ((RecAt.own (OwnB.text b1 t)).more (fun x hx => List.mem_append_left _ hx))⟩, by dsimp only; omega⟩
            case e1 => repeat (first | exact Env.Le.nil _ | refine Env.Le.cons rfl ?_)
            case h1 => exact Sub.heap_cons (by repeat (first | exact Take.head _ _ | apply Take.tail)) (Sub.heap_cons (by repeat (first | exact Take.head _ _ | apply Take.tail)) (Sub.heap_cons (by repeat (first | exact Take.head _ _ | apply Take.tail)) (Sub.heap_cons (by repeat (first | exact Take.head _ _ | apply Take.tail)) (Sub.heap_cons (Take.both (by repeat (first | exact Take.head _ _ | apply Take.tail)) (by repeat (first | exact Take.head _ _ | apply Take.tail))) (Sub.heap_nil _)))))
          · refine LW.on 43 rfl rfl ?_
            refine LW.lss false rfl rfl (decide_eq_false (by omega)) rfl ?_
            refine LW.pickT rfl rfl rfl ?_
            refine LW.nil ?_
            refine NW.then_ ?_
            refine CW.cond_false rfl ?_
            refine CW.exit ?_
            refine NW.then_exit ?_
            refine NW.then_exit ?_
            refine NW.block_exit ?_
            refine NW.then_ ?_
            refine CW.seq ?_
            obtain ⟨Aw, cpw, rfl, hAw, hcw⟩ := OwnS.val ho
            refine CW.region ?_
            refine LW.move rfl rfl ?_
            refine LW.move rfl rfl ?_
            refine LW.call (dev_Crash W B p bn bw bl 128 e her.ok [] A2 cp2 keep hsrc) Tryd.func29 rfl FactsLawLogOn.fname29 ⟨rfl, rfl, trivial⟩ (Take.both (Take.none _) (by repeat (first | exact Take.head _ _ | apply Take.tail))) rfl ?_
            rintro _ _ ⟨cp', cn, cw, cl, rfl, rfl⟩; refine LW.split2 (LW.split2p ?_)
            refine LW.assign rfl rfl ?_
            refine LW.nil ?_
            refine NW.then_ ?_
            refine CW.seq ?_
            have hrc := Rest.crash her.ok keep
            have hlc := crash_log her.ok her.flat hef hel keep
            generalize e.crash 128 keep = dc at hrc hlc ⊢
            refine CW.region ?_
            refine LW.move rfl rfl ?_
            refine LW.move rfl rfl ?_
            refine LW.rem (z.tmod 4) rfl rfl (by decide) (rfl) rfl ?_
            refine LW.add (z.tmod 4 + 4) rfl rfl (by first | rfl | exact wr64 (by omega) (by omega) (by omega)) rfl ?_
            refine LW.rem ((m : Int)) rfl rfl (by decide) (hm) rfl ?_
            refine LW.call (dev_Fuse W B cp' cn cw cl 128 dc (m : Int)) Tryd.func41 rfl FactsLawLogOn.fname41 ⟨rfl, rfl, trivial⟩ (by repeat (first | exact Take.head _ _ | apply Take.tail)) rfl ?_
            rintro _ _ ⟨rfl, rfl⟩
            refine LW.nil ?_
            refine NW.then_ ?_
            refine CW.seq ?_
            refine CW.region ?_
            refine LW.move rfl rfl ?_
            refine LW.call (wal_Open_ok W B cp' cn cw cl 128 (dc.blow (m : Int)) (ok_blow hrc.ok m (by omega)) hef hlc) Tryd.func28 rfl FactsLawLogOn.fname28 ⟨rfl, trivial⟩ (by repeat (first | exact Take.head _ _ | apply Take.tail)) rfl ?_
            rintro _ _ ⟨l5, q5, v5, vs5, ch5, ar5, rfl, ho5, hr5, rfl⟩; refine LW.split2 (LW.split2p (LW.split3p ?_))
            refine LW.nil ?_
            refine NW.then_ ?_
            refine CW.seq ?_
            refine CW.region ?_
            refine LW.move rfl rfl ?_
            refine LW.move rfl rfl ?_
            refine LW.call (dev_Crash W B cp' cn cw cl 128 (dc.blow (m : Int)) (ok_blow hrc.ok m (by omega)) [] A2 cp2 keep hsrc) Tryd.func29 rfl FactsLawLogOn.fname29 ⟨rfl, rfl, trivial⟩ (Take.both (Take.none _) (by repeat (first | exact Take.head _ _ | apply Take.tail))) rfl ?_
            rintro _ _ ⟨ep, en, ew, el, rfl, rfl⟩; refine LW.split2 (LW.split2p ?_)
            refine LW.assign rfl rfl ?_
            refine LW.nil ?_
            refine NW.then_ ?_
            refine CW.seq ?_
            have hre := Rest.crash (ok_blow hrc.ok m (by omega)) keep
            have hle := crash_log (d := dc.blow (m : Int)) (ok_blow hrc.ok m (by omega)) (flat_blow hrc.flat _) hef hlc keep
            generalize (dc.blow (m : Int)).crash 128 keep = de at hre hle ⊢
            refine CW.region ?_
            refine LW.assign rfl rfl ?_
            refine LW.nil ?_
            refine NW.then_ ?_
            refine CW.seq ?_
            refine CW.region ?_
            refine LW.move rfl rfl ?_
            refine LW.call (wal_Open_ok W B ep en ew el 128 de hre.ok hef hle) Tryd.func28 rfl FactsLawLogOn.fname28 ⟨rfl, trivial⟩ (by repeat (first | exact Take.head _ _ | apply Take.tail)) rfl ?_
            rintro _ _ ⟨l7, q7, v7, vs7, ch7, ar7, rfl, ho7, hr7, rfl⟩; obtain ⟨A7, cp7, rfl, hA7, hc7⟩ := OwnS.val ho7; refine LW.split2 (LW.split2p (LW.split3p ?_))
            refine LW.move rfl rfl ?_
            refine LW.extract rfl rfl rfl ?_
            refine LW.extract rfl rfl rfl ?_
            refine LW.extract rfl rfl rfl ?_
            refine LW.assign rfl rfl ?_
            refine LW.assign rfl rfl ?_
            refine LW.assign rfl rfl ?_
            refine LW.nil ?_
            refine NW.then_ ?_
            refine CW.seq ?_
            refine CW.region ?_
            refine LW.move rfl rfl ?_
            refine LW.neq false rfl rfl (bne_eq_false_iff_eq.2 (by omega)) rfl ?_
            refine LW.move rfl rfl ?_
            refine LW.on 92 rfl rfl ?_
            refine LW.move rfl rfl ?_
            refine LW.on 92 rfl rfl ?_
            refine LW.move rfl rfl ?_
            refine LW.on 92 rfl rfl ?_
            refine LW.call (law_records_eq W B (ch7 ++ (ar7 ++ (ch ++ rr))) A7 Aw cp7 cpw g.recs.length g.recs.length g.recs rfl rfl vs7 vs (Src.left W B ho7.src) (hr7.more (fun x hx => by simp [hx])) (Src.right W B (Src.right W B (Src.left W B ho.src))) (hra.more (fun x hx => by simp [hx])) (by omega)) Tryd.func30 rfl FactsLawLogOn.fname30 ⟨rfl, rfl, trivial⟩ (Take.both (by repeat (first | exact Take.head _ _ | apply Take.tail)) (Take.both (by repeat (first | exact Take.head _ _ | apply Take.tail)) (Take.both (by repeat (first | exact Take.head _ _ | apply Take.tail)) (by repeat (first | exact Take.head _ _ | apply Take.tail))))) rfl ?_
            rintro _ _ ⟨rfl, rfl⟩; refine LW.split2 (LW.split2p (LW.split3p ?_))
            refine LW.on 92 rfl rfl ?_
            refine LW.not _ rfl rfl rfl ?_
            refine LW.pickF rfl rfl rfl ?_
            refine LW.nil ?_
            refine NW.then_ ?_
            refine CW.cond_false rfl ?_
            refine CW.skip ?_
            refine NW.block ?_
            refine NW.then_ ?_
            refine CW.region ?_
            refine LW.add ((r + 1 : Int)) rfl rfl (by first | rfl | exact wr64 (by omega) (by omega) (by omega)) rfl ?_
            refine LW.move rfl rfl ?_
            refine LW.nil ?_
            refine NW.meet (⟨r + 1, g, de, ep, en, ew, el, l7, q7, .slice Aw g.recs.length cpw, vs, ch, rr⟩) ?j2 ?e2 ?h2
            case j2 => exact ⟨⟨by dsimp only; omega, hre, hef, hle, by dsimp only; omega, by dsimp only; omega, by dsimp only; omega, ho, hra⟩, by dsimp only; omega⟩
            case e2 => repeat (first | exact Env.Le.nil _ | refine Env.Le.cons rfl ?_)
            case h2 => repeat (first | exact Sub.heap_nil _ | exact Sub.refl _ | refine Sub.heap_cons (Take.none _) ?_ | refine Sub.heap_cons (by repeat (first | exact Take.head _ _ | apply Take.tail)) ?_)
        · refine LW.lss false rfl rfl (decide_eq_false (by omega)) rfl ?_
          refine LW.move rfl rfl ?_
          refine LW.off 43 rfl rfl rfl rfl ?_
          refine LW.off 43 rfl rfl rfl rfl ?_
          refine LW.pickF rfl rfl rfl ?_
          refine LW.nil ?_
          refine NW.then_ ?_
          refine CW.cond_false rfl ?_
          refine CW.exit ?_
          refine NW.then_exit ?_
          refine NW.then_exit ?_
          refine NW.block_exit ?_
          refine NW.then_ ?_
          refine CW.seq ?_
          obtain ⟨Aw, cpw, rfl, hAw, hcw⟩ := OwnS.val ho
          refine CW.region ?_
          refine LW.move rfl rfl ?_
          refine LW.move rfl rfl ?_
          refine LW.call (dev_Crash W B p bn bw bl 128 e her.ok [] A2 cp2 keep hsrc) Tryd.func29 rfl FactsLawLogOn.fname29 ⟨rfl, rfl, trivial⟩ (Take.both (Take.none _) (by repeat (first | exact Take.head _ _ | apply Take.tail))) rfl ?_
          rintro _ _ ⟨cp', cn, cw, cl, rfl, rfl⟩; refine LW.split2 (LW.split2p ?_)
          refine LW.assign rfl rfl ?_
          refine LW.nil ?_
          refine NW.then_ ?_
          refine CW.seq ?_
          have hrc := Rest.crash her.ok keep
          have hlc := crash_log her.ok her.flat hef hel keep
          generalize e.crash 128 keep = dc at hrc hlc ⊢
          refine CW.region ?_
          refine LW.move rfl rfl ?_
          refine LW.move rfl rfl ?_
          refine LW.rem (z.tmod 4) rfl rfl (by decide) (rfl) rfl ?_
          refine LW.add (z.tmod 4 + 4) rfl rfl (by first | rfl | exact wr64 (by omega) (by omega) (by omega)) rfl ?_
          refine LW.rem ((m : Int)) rfl rfl (by decide) (hm) rfl ?_
          refine LW.call (dev_Fuse W B cp' cn cw cl 128 dc (m : Int)) Tryd.func41 rfl FactsLawLogOn.fname41 ⟨rfl, rfl, trivial⟩ (by repeat (first | exact Take.head _ _ | apply Take.tail)) rfl ?_
          rintro _ _ ⟨rfl, rfl⟩
          refine LW.nil ?_
          refine NW.then_ ?_
          refine CW.seq ?_
          refine CW.region ?_
          refine LW.move rfl rfl ?_
          refine LW.call (wal_Open_ok W B cp' cn cw cl 128 (dc.blow (m : Int)) (ok_blow hrc.ok m (by omega)) hef hlc) Tryd.func28 rfl FactsLawLogOn.fname28 ⟨rfl, trivial⟩ (by repeat (first | exact Take.head _ _ | apply Take.tail)) rfl ?_
          rintro _ _ ⟨l5, q5, v5, vs5, ch5, ar5, rfl, ho5, hr5, rfl⟩; refine LW.split2 (LW.split2p (LW.split3p ?_))
          refine LW.nil ?_
          refine NW.then_ ?_
          refine CW.seq ?_
          refine CW.region ?_
          refine LW.move rfl rfl ?_
          refine LW.move rfl rfl ?_
          refine LW.call (dev_Crash W B cp' cn cw cl 128 (dc.blow (m : Int)) (ok_blow hrc.ok m (by omega)) [] A2 cp2 keep hsrc) Tryd.func29 rfl FactsLawLogOn.fname29 ⟨rfl, rfl, trivial⟩ (Take.both (Take.none _) (by repeat (first | exact Take.head _ _ | apply Take.tail))) rfl ?_
          rintro _ _ ⟨ep, en, ew, el, rfl, rfl⟩; refine LW.split2 (LW.split2p ?_)
          refine LW.assign rfl rfl ?_
          refine LW.nil ?_
          refine NW.then_ ?_
          refine CW.seq ?_
          have hre := Rest.crash (ok_blow hrc.ok m (by omega)) keep
          have hle := crash_log (d := dc.blow (m : Int)) (ok_blow hrc.ok m (by omega)) (flat_blow hrc.flat _) hef hlc keep
          generalize (dc.blow (m : Int)).crash 128 keep = de at hre hle ⊢
          refine CW.region ?_
          refine LW.assign rfl rfl ?_
          refine LW.nil ?_
          refine NW.then_ ?_
          refine CW.seq ?_
          refine CW.region ?_
          refine LW.move rfl rfl ?_
          refine LW.call (wal_Open_ok W B ep en ew el 128 de hre.ok hef hle) Tryd.func28 rfl FactsLawLogOn.fname28 ⟨rfl, trivial⟩ (by repeat (first | exact Take.head _ _ | apply Take.tail)) rfl ?_
          rintro _ _ ⟨l7, q7, v7, vs7, ch7, ar7, rfl, ho7, hr7, rfl⟩; obtain ⟨A7, cp7, rfl, hA7, hc7⟩ := OwnS.val ho7; refine LW.split2 (LW.split2p (LW.split3p ?_))
          refine LW.move rfl rfl ?_
          refine LW.extract rfl rfl rfl ?_
          refine LW.extract rfl rfl rfl ?_
          refine LW.extract rfl rfl rfl ?_
          refine LW.assign rfl rfl ?_
          refine LW.assign rfl rfl ?_
          refine LW.assign rfl rfl ?_
          refine LW.nil ?_
          refine NW.then_ ?_
          refine CW.seq ?_
          refine CW.region ?_
          refine LW.move rfl rfl ?_
          refine LW.neq false rfl rfl (bne_eq_false_iff_eq.2 (by omega)) rfl ?_
          refine LW.move rfl rfl ?_
          refine LW.on 92 rfl rfl ?_
          refine LW.move rfl rfl ?_
          refine LW.on 92 rfl rfl ?_
          refine LW.move rfl rfl ?_
          refine LW.on 92 rfl rfl ?_
          refine LW.call (law_records_eq W B (ch7 ++ (ar7 ++ (ch ++ rr))) A7 Aw cp7 cpw g.recs.length g.recs.length g.recs rfl rfl vs7 vs (Src.left W B ho7.src) (hr7.more (fun x hx => by simp [hx])) (Src.right W B (Src.right W B (Src.left W B ho.src))) (hra.more (fun x hx => by simp [hx])) (by omega)) Tryd.func30 rfl FactsLawLogOn.fname30 ⟨rfl, rfl, trivial⟩ (Take.both (by repeat (first | exact Take.head _ _ | apply Take.tail)) (Take.both (by repeat (first | exact Take.head _ _ | apply Take.tail)) (Take.both (by repeat (first | exact Take.head _ _ | apply Take.tail)) (by repeat (first | exact Take.head _ _ | apply Take.tail))))) rfl ?_
          rintro _ _ ⟨rfl, rfl⟩; refine LW.split2 (LW.split2p (LW.split3p ?_))
          refine LW.on 92 rfl rfl ?_
          refine LW.not _ rfl rfl rfl ?_
          refine LW.pickF rfl rfl rfl ?_
          refine LW.nil ?_
          refine NW.then_ ?_
          refine CW.cond_false rfl ?_
          refine CW.skip ?_
          refine NW.block ?_
          refine NW.then_ ?_
          refine CW.region ?_
          refine LW.add ((r + 1 : Int)) rfl rfl (by first | rfl | exact wr64 (by omega) (by omega) (by omega)) rfl ?_
          refine LW.move rfl rfl ?_
          refine LW.nil ?_
          refine NW.meet (⟨r + 1, g, de, ep, en, ew, el, l7, q7, .slice Aw g.recs.length cpw, vs, ch, rr⟩) ?j3 ?e3 ?h3
          case j3 => exact ⟨⟨by dsimp only; omega, hre, hef, hle, by dsimp only; omega, by dsimp only; omega, by dsimp only; omega, ho, hra⟩, by dsimp only; omega⟩
          case e3 => repeat (first | exact Env.Le.nil _ | refine Env.Le.cons rfl ?_)
          case h3 => repeat (first | exact Sub.heap_nil _ | exact Sub.refl _ | refine Sub.heap_cons (Take.none _) ?_ | refine Sub.heap_cons (by repeat (first | exact Take.head _ _ | apply Take.tail)) ?_)
    · replace hc35 := of_decide_eq_false hc35
      try dsimp only at hc35
      refine CW.exit ?_
      refine NW.then_exit ?_
      refine NW.then_exit ?_
      refine NW.block_exit ?_
      refine NW.then_ ?_
      refine CW.seq ?_
      refine CW.region ?_
      refine LW.move rfl rfl ?_
      refine LW.call (law_text' W B 5 (by omega) 1) Tryd.func26 rfl FactsLawLogOn.fname26 ⟨rfl, rfl, trivial⟩ (Take.none _) rfl ?_
      rintro _ _ ⟨b9, rfl, rfl⟩
      refine LW.call (wal_Append_ok W B l q p bn bw bl 128 d hr hf hl (by omega) (textB 5 1) ⟨by rw [textB_len]; omega, by rw [textB_len]; omega⟩ (by rw [textB_len]; omega) [cr b9 5 ((textB 5 1).map u8v)] (some ⟨b9, 0, none⟩) (textB 5 1).length (srcText W B _ _)) Tryd.func25 rfl FactsLawLogOn.fname25 ⟨rfl, rfl, trivial⟩ (Take.both (by repeat (first | exact Take.head _ _ | apply Take.tail)) (Take.both (by repeat (first | exact Take.head _ _ | apply Take.tail)) (by repeat (first | exact Take.head _ _ | apply Take.tail)))) rfl ?_
      rintro _ _ ⟨rfl, d9, hr9, hf9, hl9, _, rfl⟩; refine LW.split2 (LW.split2p ?_)
      refine LW.eql true rfl rfl (beq_iff_eq.2 (by omega)) rfl ?_
      refine LW.assign rfl rfl ?_
      refine LW.nil ?_
      refine NW.then_ ?_
      refine CW.ret ?_
      refine NW.ret1 rfl rfl ⟨_, ⟨rfl, rfl⟩, ?_⟩
      exact Sub.nil _
end
end Go.Proofs.YtpnhonhjheahhaaDoor
