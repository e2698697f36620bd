/-
  SnapAll, walked.
-/
import Derived.Test.YtpnhonhjheahhaaDoorFuz5
namespace Go.Proofs.YtpnhonhjheahhaaDoor
open Go.RowKit
namespace FactsLawSnapAll
theorem fname21 : (Tryd.f21.name == "runtime.NumGoroutine") = false := by kernel_rfl
theorem fname22 : (Tryd.f22.name == "runtime.NumGoroutine") = false := by kernel_rfl
theorem fname23 : (Tryd.f23.name == "runtime.NumGoroutine") = false := by kernel_rfl
theorem fname25 : (Tryd.f25.name == "runtime.NumGoroutine") = false := by kernel_rfl
theorem fname26 : (Tryd.f26.name == "runtime.NumGoroutine") = false := by kernel_rfl
theorem fname28 : (Tryd.f28.name == "runtime.NumGoroutine") = false := by kernel_rfl
theorem fname29 : (Tryd.f29.name == "runtime.NumGoroutine") = false := by kernel_rfl
theorem fname34 : (Tryd.f34.name == "runtime.NumGoroutine") = false := by kernel_rfl
theorem fname36 : (Tryd.f36.name == "runtime.NumGoroutine") = false := by kernel_rfl
theorem fname37 : (Tryd.f37.name == "runtime.NumGoroutine") = false := by kernel_rfl
theorem fname41 : (Tryd.f41.name == "runtime.NumGoroutine") = false := by kernel_rfl
theorem ixs58 : (Tryd.prog.info? 3).map (·.size) = some 1 := by kernel_rfl
theorem one3 : oneB Tryd.prog 3 = true := by kernel_rfl
end FactsLawSnapAll
/-- The text that a log tells of. -/
def WasAt (X : Nat → List UInt8) (g : LogS) (t : List UInt8) : Prop := (g.area = 0 ∧ t = []) ∨ ∃ a : Nat, (a = 1 ∨ a = 2) ∧ g.area = (a : Int) ∧ g.length = (t.length : Int) ∧ t.length ≤ 4096 ∧ AreaIs X (beginN 256 a) t
theorem WasAt.get {X : Nat → List UInt8} {g : LogS} {t : List UInt8} (h : WasAt X g t) (hX : ∀ i, i < 256 → (X i).length = 64) : getL 256 X g.log = (0, t) := by
  rcases h with ⟨h1, rfl⟩ | ⟨a, h1, h2, h3, h4, h5⟩
  · exact getL_none h1
  · exact getL_area (a := a) h2 h1 h3 (show t.length ≤ 4096 from h4) hX h5
theorem WasAt.len {X : Nat → List UInt8} {g : LogS} {t : List UInt8} (h : WasAt X g t) : t.length ≤ 4096 := by
  rcases h with ⟨h1, rfl⟩ | ⟨a, h1, h2, h3, h4, h5⟩
  · exact Nat.zero_le _
  · exact h4
/-- What is not written stays. -/
theorem WasAt.same {X Y : Nat → List UInt8} {g : LogS} {t : List UInt8} (h : WasAt X g t) (hY : ∀ j, 128 ≤ j → j < 256 → (j < beginN 256 (putTo g.log) ∨ beginN 256 (putTo g.log) + 64 ≤ j) → Y j = X j) : WasAt Y g t := by
  rcases h with h1 | ⟨a, h1, h2, h3, h4, h5⟩
  · exact .inl h1
  · refine .inr ⟨a, h1, h2, h3, h4, h5.congr (fun j hj => hY _ ?_ ?_ ?_)⟩
    · unfold beginN; omega
    · unfold beginN; omega
    · have hp : putTo g.log = if g.area = 1 then 2 else 1 := rfl
      rw [hp]
      unfold beginN
      rcases h1 with rfl | rfl
      · rw [if_pos (by rw [h2]; rfl)]; left; omega
      · rw [if_neg (by rw [h2]; decide)]; right; omega
theorem WasAt.app {X Y : Nat → List UInt8} {s a l s' : Int} {r r' : List (List UInt8)} {t : List UInt8} (h : WasAt X ⟨s, a, l, r⟩ t) (hY : ∀ j, 128 ≤ j → Y j = X j) : WasAt Y ⟨s', a, l, r'⟩ t := by
  rcases h with h1 | ⟨k, h1, h2, h3, h4, h5⟩
  · exact .inl h1
  · exact .inr ⟨k, h1, h2, h3, h4, h5.congr (fun j hj => hY _ (by unfold beginN; omega))⟩
theorem WasAt.put {X : Nat → List UInt8} {g : LogS} {s : Int} {r : List (List UInt8)} {t : List UInt8} (h : t.length ≤ 4096) (ha : AreaIs X (beginN 256 (putTo g.log)) t) : WasAt X ⟨s, putTo g.log, t.length, r⟩ t := .inr ⟨putTo g.log, putTo_two _, rfl, rfl, h, ha⟩
theorem tdiv_near (z : Int) (k : Int) (hk : 0 < k) : z.tdiv k = z / k ∨ z.tdiv k = z / k + 1 := by
  rw [Int.tdiv_eq_ediv, Int.sign_eq_one_of_pos hk]
  split
  · exact .inl (Int.add_zero _)
  · exact .inr rfl
theorem tdiv8 {z : Int} (h : I64 z) : IntKind.wrap .i64 (z.tdiv 8) = z.tdiv 8 := by
  have h1 := h.1
  have h2 := h.2
  have h3 := tdiv_near z 8 (by decide)
  exact wr64 rfl (by omega) (by omega)
structure SnapASt where
  i : Nat
  g : LogS
  d : DevS
  w : List UInt8
  A : Option Addr
  cp : Nat
  ch : List Row
section
variable (W : World) (B : Nat)
theorem snap_Put_large (l q p bn bw bl n : Nat) (s : DevS) (hs : s.Ok n) {g : LogS} (hg : g.Fine n) (t : List UInt8) (ht : mostN n < t.length) (ht2 : t.length ≤ 1000000) (src : List Row) (A : Option Addr) (cp : Nat) (hsrc : Src W B src A (t.map u8v)) (hcp : t.length ≤ cp) :
    Spec Tryd.prog W B 37 [.pointer (some ⟨p, 0, none⟩), .pointer (some ⟨l, 0, none⟩), .slice A t.length cp] (src ++ (logC l q p g.log ++ devC p bn bw bl n s))
      (fun v post => v = .int .i64 11 ∧ post = src ++ (logC l q p g.log ++ devC p bn bw bl n s)) := by
  have hpl : putL n s g.log t = (11, s, g.log) := by unfold putL; rw [if_pos ht]
  refine (snap_Put W B l q p bn bw bl n s hs g.log (hg.In hs.n1) rfl rfl t (by omega) src A cp hsrc hcp).mono ?_
  rintro v post ⟨rfl, rfl⟩
  rw [hpl]
  exact ⟨rfl, rfl⟩
set_option maxHeartbeats 4000000 in
theorem law_SnapAll (h0 : 0 < B) (hg : W.cell? ⟨0, 0, none⟩ = some (rty 110)) (A : Option Addr) (cp : Nat) (sizes : List Int) (hat : Src W B [] A (sizes.map i64v)) (z : Int) (hz : I64 z) (A2 : Option Addr) (cp2 : Nat) (keep : List Bool) (hsrc : Src W B [] A2 (keep.map .bool)) :
    Spec Tryd.prog W B 16 [.slice A sizes.length cp, .int .i64 z, .slice A2 keep.length cp2] [] (fun v post => v = .bool true ∧ post = []) := by
  obtain ⟨m, hm, hm2, hu1, hu2⟩ := mod_pos z 8 (by decide) (by decide)
  obtain ⟨f, hf, hf2, hv1, hv2⟩ := mod_pos (z.tdiv 8) 80 (by decide) (by decide)
  have hr0 := Rest.zero (n := 256) (by omega) (by omega)
  have hs0 := zero_slot 256 (by omega)
  refine Spec.enter ([]) Tryd.func16 rfl Tryd.ntmps16 rfl (by first | rfl | simp) (fun w0 => ?_)
  refine CW.seq ?_
  refine CW.region ?_
  refine LW.assign rfl rfl ?_
  refine LW.nil ?_
  refine NW.then_ ?_
  refine CW.seq ?_
  refine CW.region ?_
  refine LW.call (law_begun4 W B h0 hg) Tryd.func21 rfl FactsLawSnapAll.fname21 trivial (Take.none _) rfl ?_
  rintro _ _ ⟨rfl, rfl⟩
  refine LW.assign rfl rfl ?_
  refine LW.nil ?_
  refine NW.then_ ?_
  refine CW.seq ?_
  refine CW.seq ?_
  refine CW.region ?_
  refine LW.move rfl rfl ?_
  refine LW.not (false) rfl (rfl) rfl ?_
  refine LW.nil ?_
  refine NW.then_ ?_
  refine CW.cond_false rfl ?_
  refine CW.skip ?_
  refine NW.then_ ?_
  refine CW.seq ?_
  have hmo : mostN 256 = 4096 := rfl
  have hri : ringN 256 = 8064 := rfl
  refine CW.region ?_
  refine LW.call (dev_New W B 256 (by omega) (by omega)) Tryd.func23 rfl FactsLawSnapAll.fname23 ⟨rfl, trivial⟩ (Take.none _) rfl ?_
  rintro _ _ ⟨p, bn, bw, bl, rfl, rfl⟩
  refine LW.assign rfl rfl ?_
  refine LW.nil ?_
  refine NW.then_ ?_
  refine CW.seq ?_
  generalize DevS.zero 256 = d0 at hr0 hs0 ⊢
  refine CW.region ?_
  refine LW.move rfl rfl ?_
  refine LW.call (wal_Make_ok W B p bn bw bl 256 d0 hr0.ok hr0.up (hold_slot hr0.flat (by omega) hs0) (by decide)) Tryd.func22 rfl FactsLawSnapAll.fname22 ⟨rfl, trivial⟩ (by repeat (first | exact Take.head _ _ | apply Take.tail)) rfl ?_
  rintro _ _ ⟨l, q, d1, rfl, hr1, hf1, hl1, _, rfl⟩; refine LW.split2 (LW.split2 ?_)
  refine LW.move rfl rfl ?_
  refine LW.extract rfl rfl rfl ?_
  refine LW.extract rfl rfl rfl ?_
  refine LW.assign rfl rfl ?_
  refine LW.assign rfl rfl ?_
  refine LW.nil ?_
  refine NW.then_ ?_
  refine CW.seq ?_
  refine CW.seq ?_
  refine CW.region ?_
  refine LW.move rfl rfl ?_
  refine LW.neq false rfl rfl (bne_eq_false_iff_eq.2 (by omega)) rfl ?_
  refine LW.move rfl rfl ?_
  refine LW.on 38 rfl rfl ?_
  refine LW.move rfl rfl ?_
  refine LW.on 38 rfl rfl ?_
  refine LW.call (snap_Most W B p bn bw bl 256 d1 (by omega)) Tryd.func36 rfl FactsLawSnapAll.fname36 ⟨rfl, trivial⟩ (by repeat (first | exact Take.head _ _ | apply Take.tail)) rfl ?_
  rintro _ _ ⟨rfl, rfl⟩
  refine LW.on 38 rfl rfl ?_
  refine LW.neq false rfl rfl (bne_eq_false_iff_eq.2 (by omega)) rfl ?_
  refine LW.pickF rfl rfl rfl ?_
  refine LW.nil ?_
  refine NW.then_ ?_
  refine CW.cond_false rfl ?_
  refine CW.skip ?_
  refine NW.then_ ?_
  refine CW.seq ?_
  refine CW.region ?_
  refine LW.move rfl rfl ?_
  refine LW.move rfl rfl ?_
  refine LW.call (snap_Get_at W B l q p bn bw bl 256 d1 hr1.ok (LogS.log ⟨0 + 1, 0, 0, []⟩) 0 [] (getL_none rfl)) Tryd.func34 rfl FactsLawSnapAll.fname34 ⟨rfl, rfl, trivial⟩ (Take.both (by repeat (first | exact Take.head _ _ | apply Take.tail)) (by repeat (first | exact Take.head _ _ | apply Take.tail))) rfl ?_
  rintro _ _ ⟨A7, cp7, ch7, rfl, hx7, _, _, rfl⟩; refine LW.split2 (LW.split2p ?_)
  refine LW.move rfl rfl ?_
  refine LW.extract rfl rfl rfl ?_
  refine LW.extract rfl rfl rfl ?_
  refine LW.assign rfl rfl ?_
  refine LW.assign rfl rfl ?_
  refine LW.nil ?_
  refine NW.then_ ?_
  refine CW.seq ?_
  refine CW.seq ?_
  refine CW.region ?_
  refine LW.move rfl rfl ?_
  refine LW.neq false rfl rfl (bne_eq_false_iff_eq.2 (by omega)) rfl ?_
  refine LW.move rfl rfl ?_
  refine LW.on 51 rfl rfl ?_
  refine LW.move rfl rfl ?_
  refine LW.on 51 rfl rfl ?_
  refine LW.lenSlice rfl Tryd.underlying31 rfl ?_
  refine LW.on 51 rfl rfl ?_
  refine LW.neq false rfl rfl (rfl) rfl ?_
  refine LW.pickF rfl rfl rfl ?_
  refine LW.nil ?_
  refine NW.then_ ?_
  refine CW.cond_false rfl ?_
  refine CW.skip ?_
  refine NW.then_ ?_
  refine CW.seq ?_
  refine CW.region ?_
  refine LW.assign rfl rfl ?_
  refine LW.nil ?_
  refine NW.then_ ?_
  refine CW.seq ?_
  refine CW.region ?_
  refine LW.assign rfl rfl ?_
  refine LW.nil ?_
  refine NW.then_ ?_
  refine CW.seq ?_
  refine CW.seq ?_
  refine CW.region ?_
  refine LW.assign rfl rfl ?_
  refine LW.nil ?_
  refine NW.then_ ?_
  refine CW.block ?_
  refine CW.loop (fun st : SnapASt => [(15, .int .i64 (st.i : Int)), (14, .int .i64 (st.g.recs.length : Int)), (13, .slice st.A st.w.length st.cp), (9, .pointer (some ⟨l, 0, none⟩)), (8, .pointer (some ⟨p, 0, none⟩)), (0, .slice A sizes.length cp), (1, .int .i64 z), (2, .slice A2 keep.length cp2)]) (fun st => [[logR l q p st.g.log], [slC q p st.g.serial false], devC p bn bw bl 256 st.d, st.ch]) (fun st => st.i ≤ 8 ∧ Rest 256 st.d ∧ st.g.Fine 256 ∧ LogAt st.d.N st.g ∧ st.g.serial ≤ 1 + 2 * (st.i : Int) ∧ st.g.recs.length ≤ st.i ∧ st.g.used ≤ 7 * st.i ∧ WasAt st.d.N st.g st.w ∧ Src W B st.ch st.A (st.w.map u8v)) (fun st => 8 - st.i) ⟨0, ⟨0 + 1, 0, 0, []⟩, d1, [], none, 0, []⟩ ?st14_j ?st14_e ?st14_h ?st14_r
  case st14_j => exact ⟨Nat.zero_le _, hr1, hf1, hl1, by dsimp only; omega, Nat.zero_le _, Nat.zero_le _, .inl ⟨rfl, rfl⟩, Src.nil⟩
  case st14_e => repeat (first | exact Env.Le.nil _ | refine Env.Le.cons rfl ?_)
  case st14_h => repeat (first | exact Sub.heap_nil _ | exact Sub.refl _ | refine Sub.heap_cons (Take.none _) ?_ | refine Sub.heap_cons (by repeat (first | exact Take.head _ _ | apply Take.tail)) ?_)
  case st14_r =>
    clear hr1 hf1 hl1 hr0 hs0; rintro ⟨i, g, d, w, C, cc, ch⟩ ⟨hi, hr, hfi, hl, hse, hrl, hus, hw, hC⟩; dsimp only at hi hr hfi hl hse hrl hus hw hC
    try dsimp only
    refine CW.seq ?_
    refine CW.seq ?_
    refine CW.region ?_
    refine LW.move rfl rfl ?_
    refine LW.move rfl rfl ?_
    refine LW.lenSlice rfl Tryd.underlying58 rfl ?_
    by_cases hil : i < sizes.length
    · refine LW.lss true rfl rfl (decide_eq_true (by omega)) rfl ?_
      refine LW.move rfl rfl ?_
      refine LW.on 60 rfl rfl ?_
      refine LW.move rfl rfl ?_
      by_cases hi8 : i < 8
      · refine LW.on 60 rfl rfl ?_
        refine LW.lss true rfl rfl (decide_eq_true (by omega)) rfl ?_
        refine LW.pickT rfl rfl rfl ?_
        refine LW.nil ?_
        refine NW.then_ ?_
        refine CW.cond_true rfl ?_
        refine CW.skip ?_
        refine NW.then_ ?_
        refine CW.seq ?_
        refine CW.block ?_
        refine CW.seq ?_
        obtain ⟨x0, rfl⟩ : ∃ a, A = some a := hat.some (by rw [List.length_map]; omega)
        have hgi : (sizes.map i64v)[i]? = some (.int .i64 (sizes.getD i 0)) := by simp [List.getD, List.getElem?_eq_getElem hil, i64v]
        obtain ⟨k, hk, hk2, hy1, hy2⟩ := mod_pos (sizes.getD i 0) 4200 (by decide) (by decide)
        generalize sizes.getD i 0 = x at hgi hk hy1 hy2
        obtain ⟨y, hy⟩ : ∃ y, y = UInt8.ofNat i := ⟨_, rfl⟩
        have hyc : IntKind.u8.wrap (i : Int) = (y.toNat : Int) := by rw [hy]; exact u8_conv i
        refine CW.region ?_
        refine LW.move rfl rfl ?_
        refine LW.move rfl rfl ?_
        refine LW.indexAt rfl rfl Tryd.underlying58 FactsLawSnapAll.ixs58 (by omega) (by omega) rfl ?_
        refine LW.loadRd (v := .int .i64 x) rfl (hat.rd (Take.none _)) (by simpa using hgi) FactsLawSnapAll.one3 rfl ?_
        refine LW.rem (x.tmod 4200) rfl rfl (by decide) (rfl) rfl ?_
        refine LW.add (x.tmod 4200 + 4200) rfl rfl (by first | rfl | exact wr64 (by omega) (by omega) (by omega)) rfl ?_
        refine LW.rem ((k : Int)) rfl rfl (by decide) (hk) rfl ?_
        refine LW.assign rfl rfl ?_
        refine LW.nil ?_
        refine NW.then_ ?_
        refine CW.seq ?_
        refine CW.seq ?_
        refine CW.region ?_
        refine LW.move rfl rfl ?_
        refine LW.move rfl rfl ?_
        refine LW.convInt ((y.toNat : Int)) rfl Tryd.underlying3 Tryd.underlying5 (hyc) rfl ?_
        refine LW.call (law_text' W B 5 (by omega) y) Tryd.func26 rfl FactsLawSnapAll.fname26 ⟨rfl, rfl, trivial⟩ (Take.none _) rfl ?_
        rintro _ _ ⟨b1, rfl, rfl⟩
        refine LW.call (wal_Append_ok W B l q p bn bw bl 256 d hr hfi hl (by omega) (textB 5 y) ⟨by rw [textB_len]; omega, by rw [textB_len]; omega⟩ (by rw [textB_len]; omega) [cr b1 5 ((textB 5 y).map u8v)] (some ⟨b1, 0, none⟩) (textB 5 y).length (srcText W B _ _)) Tryd.func25 rfl FactsLawSnapAll.fname25 ⟨rfl, rfl, trivial⟩ (Take.both (by repeat (first | exact Take.head _ _ | apply Take.tail)) (Take.both (Take.both (by repeat (first | exact Take.head _ _ | apply Take.tail)) (by repeat (first | exact Take.head _ _ | apply Take.tail))) (by repeat (first | exact Take.head _ _ | apply Take.tail)))) rfl ?_
        rintro _ _ ⟨rfl, d2, hr2, hg2, hl2, hh2, rfl⟩; refine LW.split2 (LW.split2p (LW.split2p ?_))
        refine LW.neq false rfl rfl (bne_eq_false_iff_eq.2 (by omega)) rfl ?_
        refine LW.nil ?_
        refine NW.then_ ?_
        refine CW.cond_false rfl ?_
        refine CW.skip ?_
        refine NW.then_ ?_
        refine CW.seq ?_
        have hrl2 : (LogS.mk (g.serial + 1) g.area g.length (g.recs ++ [textB 5 y])).recs.length = g.recs.length + 1 := by simp
        have hus2 : (LogS.mk (g.serial + 1) g.area g.length (g.recs ++ [textB 5 y])).used = g.used + 7 := by rw [used_app, textB_len]; rfl
        have hse2 : (LogS.mk (g.serial + 1) g.area g.length (g.recs ++ [textB 5 y])).serial = g.serial + 1 := rfl
        have hw2 : WasAt d2.N (LogS.mk (g.serial + 1) g.area g.length (g.recs ++ [textB 5 y])) w := WasAt.app (s := g.serial) (r := g.recs) hw (fun j hj => hh2 j (by omega))
        generalize LogS.mk (g.serial + 1) g.area g.length (g.recs ++ [textB 5 y]) = g2 at hrl2 hus2 hse2 hw2 hg2 hl2 ⊢
        refine CW.region ?_
        refine LW.move rfl rfl ?_
        refine LW.add ((g2.recs.length : Int)) rfl rfl (by rw [hrl2]; exact wr64 (by omega) (by omega) (by omega)) rfl ?_
        refine LW.assign rfl rfl ?_
        refine LW.nil ?_
        refine NW.then_ ?_
        refine CW.seq ?_
        refine CW.region ?_
        refine LW.move rfl rfl ?_
        refine LW.move rfl rfl ?_
        refine LW.convInt ((y.toNat : Int)) rfl Tryd.underlying3 Tryd.underlying5 (hyc) rfl ?_
        refine LW.call (law_text' W B k (by omega) y) Tryd.func26 rfl FactsLawSnapAll.fname26 ⟨rfl, rfl, trivial⟩ (Take.none _) rfl ?_
        rintro _ _ ⟨b2, rfl, rfl⟩
        refine LW.assign rfl rfl ?_
        refine LW.nil ?_
        refine NW.then_ ?_
        refine CW.seq ?_
        refine CW.seq ?_
        have htz := textB_len k y
        generalize textB k y = t at htz ⊢
        refine CW.region ?_
        refine LW.move rfl rfl ?_
        by_cases hk4 : 4096 < k
        · refine LW.gtr true rfl rfl (decide_eq_true (by omega)) rfl ?_
          refine LW.nil ?_
          refine NW.then_ ?_
          refine CW.cond_true rfl ?_
          refine CW.seq ?_
          refine CW.seq ?_
          refine CW.region ?_
          refine LW.move rfl rfl ?_
          refine LW.move rfl rfl ?_
          refine LW.move rfl rfl ?_
          refine LW.call (snap_Put_large W B l q p bn bw bl 256 d2 hr2.ok hg2 t (by omega) (by omega) [cr b2 5 (t.map u8v)] (some ⟨b2, 0, none⟩) t.length (srcText W B _ _) (Nat.le_refl _)) Tryd.func37 rfl FactsLawSnapAll.fname37 ⟨rfl, rfl, rfl, trivial⟩ (Take.both (by repeat (first | exact Take.head _ _ | apply Take.tail)) (Take.both (Take.both (by repeat (first | exact Take.head _ _ | apply Take.tail)) (by repeat (first | exact Take.head _ _ | apply Take.tail))) (by repeat (first | exact Take.head _ _ | apply Take.tail)))) rfl ?_
          rintro _ _ ⟨rfl, rfl⟩; refine LW.split2 (LW.split2p (LW.split2p ?_))
          refine LW.neq false rfl rfl (bne_eq_false_iff_eq.2 (by omega)) rfl ?_
          refine LW.nil ?_
          refine NW.then_ ?_
          refine CW.cond_false rfl ?_
          refine CW.skip ?_
          refine NW.then_ ?_
          refine CW.exit ?_
          refine NW.then_exit ?_
          refine NW.block_exit ?_
          refine NW.then_ ?_
          refine CW.region ?_
          refine LW.move rfl rfl ?_
          refine LW.add ((i + 1 : Int)) rfl rfl (by first | rfl | exact wr64 (by omega) (by omega) (by omega)) rfl ?_
          refine LW.assign rfl rfl ?_
          refine LW.nil ?_
          refine NW.meet (⟨i + 1, g2, d2, w, C, cc, ch⟩) ?j1 ?e1 ?h1
          case j1 => exact ⟨⟨by dsimp only; omega, hr2, hg2, hl2, by dsimp only; omega, by dsimp only; omega, by dsimp only; omega, hw2, hC⟩, by dsimp only; omega⟩
          case e1 => repeat (first | exact Env.Le.nil _ | refine Env.Le.cons rfl ?_)
          case h1 => repeat (first | exact Sub.heap_nil _ | exact Sub.refl _ | refine Sub.heap_cons (Take.none _) ?_ | refine Sub.heap_cons (by repeat (first | exact Take.head _ _ | apply Take.tail)) ?_)
        · refine LW.gtr false rfl rfl (decide_eq_false (by omega)) rfl ?_
          refine LW.nil ?_
          refine NW.then_ ?_
          refine CW.cond_false rfl ?_
          refine CW.skip ?_
          refine NW.then_ ?_
          refine CW.seq ?_
          refine CW.region ?_
          refine LW.move rfl rfl ?_
          refine LW.move rfl rfl ?_
          refine LW.rem (z.tmod 8) rfl rfl (by decide) (rfl) rfl ?_
          refine LW.add (z.tmod 8 + 8) rfl rfl (by first | rfl | exact wr64 (by omega) (by omega) (by omega)) rfl ?_
          refine LW.rem ((m : Int)) rfl rfl (by decide) (hm) rfl ?_
          by_cases him : i = m
          · refine LW.eql true rfl rfl (beq_iff_eq.2 (by omega)) rfl ?_
            refine LW.assign rfl rfl ?_
            refine LW.nil ?_
            refine NW.then_ ?_
            refine CW.seq ?_
            refine CW.seq ?_
            refine CW.region ?_
            refine LW.move rfl rfl ?_
            refine LW.nil ?_
            refine NW.then_ ?_
            refine CW.cond_true rfl ?_
            refine CW.region ?_
            refine LW.move rfl rfl ?_
            refine LW.move rfl rfl ?_
            refine LW.quo (z.tdiv 8) rfl rfl (by decide) (tdiv8 hz) rfl ?_
            refine LW.rem ((z.tdiv 8).tmod 80) rfl rfl (by decide) (rfl) rfl ?_
            refine LW.add ((z.tdiv 8).tmod 80 + 80) rfl rfl (by first | rfl | exact wr64 (by omega) (by omega) (by omega)) rfl ?_
            refine LW.rem ((f : Int)) rfl rfl (by decide) (hf) rfl ?_
            refine LW.call (dev_Fuse W B p bn bw bl 256 d2 (f : Int)) Tryd.func41 rfl FactsLawSnapAll.fname41 ⟨rfl, rfl, trivial⟩ (by repeat (first | exact Take.head _ _ | apply Take.tail)) rfl ?_
            rintro _ _ ⟨rfl, rfl⟩
            refine LW.nil ?_
            refine NW.then_ ?_
            refine CW.seq ?_
            refine CW.region ?_
            refine LW.move rfl rfl ?_
            refine LW.move rfl rfl ?_
            refine LW.move rfl rfl ?_
            refine LW.call (snap_Put_fz W B l q p bn bw bl 256 (d2.blow (f : Int)) (ok_blow hr2.ok f (by omega)) hg2 (hold_log (flat_blow hr2.flat _) (by omega) hg2 hl2) (by omega) t (by omega) [cr b2 5 (t.map u8v)] (some ⟨b2, 0, none⟩) t.length (srcText W B _ _) (Nat.le_refl _)) Tryd.func37 rfl FactsLawSnapAll.fname37 ⟨rfl, rfl, rfl, trivial⟩ (Take.both (by repeat (first | exact Take.head _ _ | apply Take.tail)) (Take.both (Take.both (by repeat (first | exact Take.head _ _ | apply Take.tail)) (by repeat (first | exact Take.head _ _ | apply Take.tail))) (by repeat (first | exact Take.head _ _ | apply Take.tail)))) rfl ?_
            rintro v3 post3 hR
            rcases hR with ⟨rfl, d3, ho3, hfl3, hl3, ha3, hf3, rfl⟩ | ⟨rfl, d3, L, ho3, hd3, hx3, hot3, hf3, rfl⟩
            · refine LW.split2 (LW.split2p (LW.split2p ?_))
              refine LW.assign rfl rfl ?_
              refine LW.nil ?_
              refine NW.then_ ?_
              refine CW.seq ?_
              refine CW.region ?_
              refine LW.move rfl rfl ?_
              refine LW.move rfl rfl ?_
              refine LW.call (dev_Crash W B p bn bw bl 256 d3 ho3 [] A2 cp2 keep hsrc) Tryd.func29 rfl FactsLawSnapAll.fname29 ⟨rfl, rfl, trivial⟩ (Take.both (Take.none _) (by repeat (first | exact Take.head _ _ | apply Take.tail))) rfl ?_
              rintro _ _ ⟨cp', cn, cw, cl, rfl, rfl⟩; refine LW.split2 (LW.split2p ?_)
              refine LW.assign rfl rfl ?_
              refine LW.nil ?_
              refine NW.then_ ?_
              refine CW.seq ?_
              refine CW.region ?_
              refine LW.move rfl rfl ?_
              refine LW.call (wal_Open_ok W B cp' cn cw cl 256 (d3.crash 256 keep) (ho3.crash keep) hf3 (crash_log ho3 hfl3 hf3 hl3 keep)) Tryd.func28 rfl FactsLawSnapAll.fname28 ⟨rfl, trivial⟩ (by repeat (first | exact Take.head _ _ | apply Take.tail)) rfl ?_
              rintro _ _ ⟨l5, q5, v5, vs5, ch5, ar5, rfl, ho5, hr5, rfl⟩; obtain ⟨A5, cp5, rfl, hA5, hc5⟩ := OwnS.val ho5; refine LW.split2 (LW.split2p (LW.split3p (LW.split3p ?_)))
              refine LW.move rfl rfl ?_
              refine LW.extract rfl rfl rfl ?_
              refine LW.extract rfl rfl rfl ?_
              refine LW.extract rfl rfl rfl ?_
              refine LW.assign rfl rfl ?_
              refine LW.assign rfl rfl ?_
              refine LW.assign rfl rfl ?_
              refine LW.nil ?_
              refine NW.then_ ?_
              refine CW.seq ?_
              refine CW.seq ?_
              refine CW.region ?_
              refine LW.move rfl rfl ?_
              refine LW.neq false rfl rfl (bne_eq_false_iff_eq.2 (by omega)) rfl ?_
              refine LW.nil ?_
              refine NW.then_ ?_
              refine CW.cond_false rfl ?_
              refine CW.skip ?_
              refine NW.then_ ?_
              refine CW.seq ?_
              refine CW.region ?_
              refine LW.move rfl rfl ?_
              refine LW.move rfl rfl ?_
              have hac := (hold_area hfl3 (fun j hj => by unfold beginN; have := putTo_two g2.log; omega) ha3).crash ho3 keep
              refine LW.call (snap_Get_at W B l5 q5 cp' cn cw cl 256 (d3.crash 256 keep) (ho3.crash keep) _ 0 t (getL_area (a := putTo g2.log) rfl (putTo_two g2.log) rfl (by omega) (fun i hi => ok_len (ho3.crash keep) hi) hac)) Tryd.func34 rfl FactsLawSnapAll.fname34 ⟨rfl, rfl, trivial⟩ (Take.both (by repeat (first | exact Take.head _ _ | apply Take.tail)) (by repeat (first | exact Take.head _ _ | apply Take.tail))) rfl ?_
              rintro _ _ ⟨A9, cp9, ch9, rfl, hx9, _, _, rfl⟩; refine LW.split2 (LW.split2p ?_)
              refine LW.move rfl rfl ?_
              refine LW.extract rfl rfl rfl ?_
              refine LW.extract rfl rfl rfl ?_
              refine LW.assign rfl rfl ?_
              refine LW.assign rfl rfl ?_
              refine LW.nil ?_
              refine NW.then_ ?_
              refine CW.seq ?_
              refine CW.region ?_
              refine LW.move rfl rfl ?_
              refine LW.bytesStr (t) rfl Tryd.underlying31 Tryd.underlying5 Tryd.underlying9 (hx9.rd (by repeat (first | exact Take.head _ _ | apply Take.tail))) (rfl) rfl ?_
              refine LW.move rfl rfl ?_
              refine LW.bytesStr (t) rfl Tryd.underlying31 Tryd.underlying5 Tryd.underlying9 ((srcText W B b2 t).rd (by repeat (first | exact Take.head _ _ | apply Take.tail))) (rfl) rfl ?_
              refine LW.strEql (true) rfl rfl Tryd.underlying9 (decide_eq_true rfl) rfl ?_
              refine LW.move rfl rfl ?_
              refine LW.on 132 rfl rfl ?_
              refine LW.move rfl rfl ?_
              refine LW.on 132 rfl rfl ?_
              refine LW.lenSlice rfl Tryd.underlying36 rfl ?_
              refine LW.on 132 rfl rfl ?_
              refine LW.eql true rfl rfl (rfl) rfl ?_
              refine LW.pickT rfl rfl rfl ?_
              refine LW.assign rfl rfl ?_
              refine LW.nil ?_
              refine NW.then_ ?_
              refine CW.seq ?_
              refine CW.seq ?_
              refine CW.region ?_
              refine LW.move rfl rfl ?_
              refine LW.neq false rfl rfl (bne_eq_false_iff_eq.2 (by omega)) rfl ?_
              refine LW.move rfl rfl ?_
              refine LW.on 139 rfl rfl ?_
              refine LW.move rfl rfl ?_
              refine LW.on 139 rfl rfl ?_
              refine LW.eql true rfl rfl (beq_iff_eq.2 (by omega)) rfl ?_
              refine LW.on 139 rfl rfl ?_
              refine LW.move rfl rfl ?_
              refine LW.on 142 rfl rfl ?_
              refine LW.move rfl rfl ?_
              refine LW.on 142 rfl rfl ?_
              refine LW.not (false) rfl (rfl) rfl ?_
              refine LW.on 139 rfl rfl ?_
              refine LW.pickT rfl rfl rfl ?_
              refine LW.pickF rfl rfl rfl ?_
              refine LW.move rfl rfl ?_
              refine LW.on 147 rfl rfl ?_
              refine LW.move rfl rfl ?_
              refine LW.on 147 rfl rfl ?_
              refine LW.neq false rfl rfl (bne_eq_false_iff_eq.2 (by omega)) rfl ?_
              refine LW.on 147 rfl rfl ?_
              refine LW.move rfl rfl ?_
              refine LW.off 150 rfl rfl rfl rfl ?_
              refine LW.off 150 rfl rfl rfl rfl ?_
              refine LW.on 147 rfl rfl ?_
              refine LW.pickF rfl rfl rfl ?_
              refine LW.on 147 rfl rfl ?_
              refine LW.move rfl rfl ?_
              refine LW.off 154 rfl rfl rfl rfl ?_
              refine LW.off 154 rfl rfl rfl rfl ?_
              refine LW.off 154 rfl rfl rfl rfl ?_
              refine LW.off 154 rfl rfl rfl rfl ?_
              refine LW.off 154 rfl rfl rfl rfl ?_
              refine LW.off 154 rfl rfl rfl rfl ?_
              refine LW.offU 160 rfl rfl rfl ?_
              refine LW.offU 160 rfl rfl rfl ?_
              refine LW.offU 160 rfl rfl rfl ?_
              refine LW.offU 160 rfl rfl rfl ?_
              refine LW.off 154 rfl rfl rfl rfl ?_
              refine LW.on 147 rfl rfl ?_
              refine LW.pickF rfl rfl rfl ?_
              refine LW.pickF rfl rfl rfl ?_
              refine LW.nil ?_
              refine NW.then_ ?_
              refine CW.cond_false rfl ?_
              refine CW.skip ?_
              refine NW.then_ ?_
              refine CW.seq ?_
              refine CW.seq ?_
              refine CW.region ?_
              refine LW.move rfl rfl ?_
              refine LW.neq false rfl rfl (bne_eq_false_iff_eq.2 (by omega)) rfl ?_
              refine LW.nil ?_
              refine NW.then_ ?_
              refine CW.cond_false rfl ?_
              refine CW.skip ?_
              refine NW.then_ ?_
              refine CW.seq ?_
              refine CW.seq ?_
              refine CW.region ?_
              refine LW.move rfl rfl ?_
              refine LW.nil ?_
              refine NW.then_ ?_
              refine CW.cond_true rfl ?_
              refine CW.seq ?_
              refine CW.region ?_
              refine LW.assign rfl rfl ?_
              refine LW.nil ?_
              refine NW.then_ ?_
              refine CW.ret ?_
              refine NW.then_ret ?_
              refine NW.block_ret ?_
              refine NW.then_ret ?_
              refine NW.then_ret ?_
              refine NW.block_ret ?_
              refine NW.then_ret ?_
              refine NW.ret1 rfl rfl ⟨_, ⟨rfl, rfl⟩, ?_⟩
              exact Sub.nil _
            · refine LW.split2 (LW.split2p (LW.split2p ?_))
              refine LW.assign rfl rfl ?_
              refine LW.nil ?_
              refine NW.then_ ?_
              refine CW.seq ?_
              refine CW.region ?_
              refine LW.move rfl rfl ?_
              refine LW.move rfl rfl ?_
              refine LW.call (dev_Crash W B p bn bw bl 256 d3 ho3 [] A2 cp2 keep hsrc) Tryd.func29 rfl FactsLawSnapAll.fname29 ⟨rfl, rfl, trivial⟩ (Take.both (Take.none _) (by repeat (first | exact Take.head _ _ | apply Take.tail))) rfl ?_
              rintro _ _ ⟨cp', cn, cw, cl, rfl, rfl⟩; refine LW.split2 (LW.split2p ?_)
              refine LW.assign rfl rfl ?_
              refine LW.nil ?_
              refine NW.then_ ?_
              refine CW.seq ?_
              refine CW.region ?_
              refine LW.move rfl rfl ?_
              rcases hx3 _ (crash_mix ho3 keep) with hc3 | ⟨hc3, ha3⟩
              · refine LW.call (wal_Open_ok W B cp' cn cw cl 256 (d3.crash 256 keep) (ho3.crash keep) hg2 hc3) Tryd.func28 rfl FactsLawSnapAll.fname28 ⟨rfl, trivial⟩ (by repeat (first | exact Take.head _ _ | apply Take.tail)) rfl ?_
                rintro _ _ ⟨l5, q5, v5, vs5, ch5, ar5, rfl, ho5, hr5, rfl⟩; obtain ⟨A5, cp5, rfl, hA5, hc5⟩ := OwnS.val ho5; refine LW.split2 (LW.split2p (LW.split3p (LW.split3p ?_)))
                refine LW.move rfl rfl ?_
                refine LW.extract rfl rfl rfl ?_
                refine LW.extract rfl rfl rfl ?_
                refine LW.extract rfl rfl rfl ?_
                refine LW.assign rfl rfl ?_
                refine LW.assign rfl rfl ?_
                refine LW.assign rfl rfl ?_
                refine LW.nil ?_
                refine NW.then_ ?_
                refine CW.seq ?_
                refine CW.seq ?_
                refine CW.region ?_
                refine LW.move rfl rfl ?_
                refine LW.neq false rfl rfl (bne_eq_false_iff_eq.2 (by omega)) rfl ?_
                refine LW.nil ?_
                refine NW.then_ ?_
                refine CW.cond_false rfl ?_
                refine CW.skip ?_
                refine NW.then_ ?_
                refine CW.seq ?_
                refine CW.region ?_
                refine LW.move rfl rfl ?_
                refine LW.move rfl rfl ?_
                have hac : WasAt (d3.crash 256 keep).N g2 w := hw2.same (fun j h1 h2 h3 => by
                  have h4 := hot3 j (by omega) h3
                  have hV : (d2.blow (f : Int)).V j = d2.N j := (flat_blow hr2.flat _).V j
                  have hN : (d2.blow (f : Int)).N j = d2.N j := rfl
                  rcases crash_mix ho3 keep j h2 with h5 | h5
                  · rw [h5, h4.1, hN]
                  · rcases h4.2 with h6 | h6
                    · rw [h5, h6, hV]
                    · rw [h5, h6, hN])
                refine LW.call (snap_Get_at W B l5 q5 cp' cn cw cl 256 (d3.crash 256 keep) (ho3.crash keep) _ 0 w (hac.get (fun i hi => ok_len (ho3.crash keep) hi))) Tryd.func34 rfl FactsLawSnapAll.fname34 ⟨rfl, rfl, trivial⟩ (Take.both (by repeat (first | exact Take.head _ _ | apply Take.tail)) (by repeat (first | exact Take.head _ _ | apply Take.tail))) rfl ?_
                rintro _ _ ⟨A9, cp9, ch9, rfl, hx9, _, _, rfl⟩; refine LW.split2 (LW.split2p ?_)
                refine LW.move rfl rfl ?_
                refine LW.extract rfl rfl rfl ?_
                refine LW.extract rfl rfl rfl ?_
                refine LW.assign rfl rfl ?_
                refine LW.assign rfl rfl ?_
                refine LW.nil ?_
                refine NW.then_ ?_
                refine CW.seq ?_
                refine CW.region ?_
                refine LW.move rfl rfl ?_
                refine LW.bytesStr (w) rfl Tryd.underlying31 Tryd.underlying5 Tryd.underlying9 (hx9.rd (by repeat (first | exact Take.head _ _ | apply Take.tail))) (rfl) rfl ?_
                refine LW.move rfl rfl ?_
                refine LW.bytesStr (t) rfl Tryd.underlying31 Tryd.underlying5 Tryd.underlying9 ((srcText W B b2 t).rd (by repeat (first | exact Take.head _ _ | apply Take.tail))) (rfl) rfl ?_
                by_cases hwt : w = t
                · refine LW.strEql (true) rfl rfl Tryd.underlying9 (decide_eq_true hwt) rfl ?_
                  refine LW.move rfl rfl ?_
                  refine LW.on 132 rfl rfl ?_
                  refine LW.move rfl rfl ?_
                  refine LW.on 132 rfl rfl ?_
                  refine LW.lenSlice rfl Tryd.underlying36 rfl ?_
                  refine LW.on 132 rfl rfl ?_
                  refine LW.eql false rfl rfl (beq_eq_false_iff_ne.2 (by omega)) rfl ?_
                  refine LW.pickT rfl rfl rfl ?_
                  refine LW.assign rfl rfl ?_
                  refine LW.nil ?_
                  refine NW.then_ ?_
                  refine CW.seq ?_
                  refine CW.seq ?_
                  refine CW.region ?_
                  refine LW.move rfl rfl ?_
                  refine LW.neq false rfl rfl (bne_eq_false_iff_eq.2 (by omega)) rfl ?_
                  refine LW.move rfl rfl ?_
                  refine LW.on 139 rfl rfl ?_
                  refine LW.move rfl rfl ?_
                  refine LW.on 139 rfl rfl ?_
                  refine LW.eql false rfl rfl (beq_eq_false_iff_ne.2 (by omega)) rfl ?_
                  refine LW.on 139 rfl rfl ?_
                  refine LW.move rfl rfl ?_
                  refine LW.off 142 rfl rfl rfl rfl ?_
                  refine LW.off 142 rfl rfl rfl rfl ?_
                  refine LW.on 139 rfl rfl ?_
                  refine LW.pickF rfl rfl rfl ?_
                  refine LW.pickF rfl rfl rfl ?_
                  refine LW.move rfl rfl ?_
                  refine LW.on 147 rfl rfl ?_
                  refine LW.move rfl rfl ?_
                  refine LW.on 147 rfl rfl ?_
                  refine LW.neq true rfl rfl (bne_iff_ne.2 (by omega)) rfl ?_
                  refine LW.on 147 rfl rfl ?_
                  refine LW.move rfl rfl ?_
                  refine LW.on 150 rfl rfl ?_
                  refine LW.move rfl rfl ?_
                  refine LW.on 150 rfl rfl ?_
                  refine LW.not (true) rfl (rfl) rfl ?_
                  refine LW.on 147 rfl rfl ?_
                  refine LW.pickT rfl rfl rfl ?_
                  refine LW.on 147 rfl rfl ?_
                  refine LW.move rfl rfl ?_
                  refine LW.on 154 rfl rfl ?_
                  refine LW.move rfl rfl ?_
                  refine LW.on 154 rfl rfl ?_
                  refine LW.bytesStr (w) rfl Tryd.underlying31 Tryd.underlying5 Tryd.underlying9 (hx9.rd (by repeat (first | exact Take.head _ _ | apply Take.tail))) (rfl) rfl ?_
                  refine LW.on 154 rfl rfl ?_
                  refine LW.move rfl rfl ?_
                  refine LW.on 154 rfl rfl ?_
                  refine LW.bytesStr (w) rfl Tryd.underlying31 Tryd.underlying5 Tryd.underlying9 (hC.rd (by repeat (first | exact Take.head _ _ | apply Take.tail))) (rfl) rfl ?_
                  refine LW.on 154 rfl rfl ?_
                  refine LW.strNeq (false) rfl rfl Tryd.underlying9 (decide_eq_false (fun h => h rfl)) rfl ?_
                  refine LW.on 154 rfl rfl ?_
                  refine LW.move rfl rfl ?_
                  refine LW.on 160 rfl rfl ?_
                  refine LW.move rfl rfl ?_
                  refine LW.on 160 rfl rfl ?_
                  refine LW.lenSlice rfl Tryd.underlying36 rfl ?_
                  refine LW.on 160 rfl rfl ?_
                  refine LW.move rfl rfl ?_
                  refine LW.on 160 rfl rfl ?_
                  refine LW.neq false rfl rfl (bne_eq_false_iff_eq.2 (by omega)) rfl ?_
                  refine LW.on 154 rfl rfl ?_
                  refine LW.pickF rfl rfl rfl ?_
                  refine LW.on 147 rfl rfl ?_
                  refine LW.pickT rfl rfl rfl ?_
                  refine LW.pickF rfl rfl rfl ?_
                  refine LW.nil ?_
                  refine NW.then_ ?_
                  refine CW.cond_false rfl ?_
                  refine CW.skip ?_
                  refine NW.then_ ?_
                  refine CW.seq ?_
                  refine CW.seq ?_
                  refine CW.region ?_
                  refine LW.move rfl rfl ?_
                  refine LW.neq true rfl rfl (bne_iff_ne.2 (by omega)) rfl ?_
                  refine LW.nil ?_
                  refine NW.then_ ?_
                  refine CW.cond_true rfl ?_
                  refine CW.seq ?_
                  refine CW.region ?_
                  refine LW.move rfl rfl ?_
                  refine LW.eql true rfl rfl (beq_iff_eq.2 (by omega)) rfl ?_
                  refine LW.move rfl rfl ?_
                  refine LW.on 172 rfl rfl ?_
                  refine LW.move rfl rfl ?_
                  refine LW.pickT rfl rfl rfl ?_
                  refine LW.assign rfl rfl ?_
                  refine LW.nil ?_
                  refine NW.then_ ?_
                  refine CW.ret ?_
                  refine NW.then_ret ?_
                  refine NW.block_ret ?_
                  refine NW.then_ret ?_
                  refine NW.then_ret ?_
                  refine NW.block_ret ?_
                  refine NW.then_ret ?_
                  refine NW.ret1 rfl rfl ⟨_, ⟨rfl, rfl⟩, ?_⟩
                  exact Sub.nil _
                · refine LW.strEql (false) rfl rfl Tryd.underlying9 (decide_eq_false hwt) rfl ?_
                  refine LW.move rfl rfl ?_
                  refine LW.off 132 rfl rfl rfl rfl ?_
                  refine LW.off 132 rfl rfl rfl rfl ?_
                  refine LW.off 132 rfl rfl rfl rfl ?_
                  refine LW.pickF rfl rfl rfl ?_
                  refine LW.assign rfl rfl ?_
                  refine LW.nil ?_
                  refine NW.then_ ?_
                  refine CW.seq ?_
                  refine CW.seq ?_
                  refine CW.region ?_
                  refine LW.move rfl rfl ?_
                  refine LW.neq false rfl rfl (bne_eq_false_iff_eq.2 (by omega)) rfl ?_
                  refine LW.move rfl rfl ?_
                  refine LW.on 139 rfl rfl ?_
                  refine LW.move rfl rfl ?_
                  refine LW.on 139 rfl rfl ?_
                  refine LW.eql false rfl rfl (beq_eq_false_iff_ne.2 (by omega)) rfl ?_
                  refine LW.on 139 rfl rfl ?_
                  refine LW.move rfl rfl ?_
                  refine LW.off 142 rfl rfl rfl rfl ?_
                  refine LW.off 142 rfl rfl rfl rfl ?_
                  refine LW.on 139 rfl rfl ?_
                  refine LW.pickF rfl rfl rfl ?_
                  refine LW.pickF rfl rfl rfl ?_
                  refine LW.move rfl rfl ?_
                  refine LW.on 147 rfl rfl ?_
                  refine LW.move rfl rfl ?_
                  refine LW.on 147 rfl rfl ?_
                  refine LW.neq true rfl rfl (bne_iff_ne.2 (by omega)) rfl ?_
                  refine LW.on 147 rfl rfl ?_
                  refine LW.move rfl rfl ?_
                  refine LW.on 150 rfl rfl ?_
                  refine LW.move rfl rfl ?_
                  refine LW.on 150 rfl rfl ?_
                  refine LW.not (true) rfl (rfl) rfl ?_
                  refine LW.on 147 rfl rfl ?_
                  refine LW.pickT rfl rfl rfl ?_
                  refine LW.on 147 rfl rfl ?_
                  refine LW.move rfl rfl ?_
                  refine LW.on 154 rfl rfl ?_
                  refine LW.move rfl rfl ?_
                  refine LW.on 154 rfl rfl ?_
                  refine LW.bytesStr (w) rfl Tryd.underlying31 Tryd.underlying5 Tryd.underlying9 (hx9.rd (by repeat (first | exact Take.head _ _ | apply Take.tail))) (rfl) rfl ?_
                  refine LW.on 154 rfl rfl ?_
                  refine LW.move rfl rfl ?_
                  refine LW.on 154 rfl rfl ?_
                  refine LW.bytesStr (w) rfl Tryd.underlying31 Tryd.underlying5 Tryd.underlying9 (hC.rd (by repeat (first | exact Take.head _ _ | apply Take.tail))) (rfl) rfl ?_
                  refine LW.on 154 rfl rfl ?_
                  refine LW.strNeq (false) rfl rfl Tryd.underlying9 (decide_eq_false (fun h => h rfl)) rfl ?_
                  refine LW.on 154 rfl rfl ?_
                  refine LW.move rfl rfl ?_
                  refine LW.on 160 rfl rfl ?_
                  refine LW.move rfl rfl ?_
                  refine LW.on 160 rfl rfl ?_
                  refine LW.lenSlice rfl Tryd.underlying36 rfl ?_
                  refine LW.on 160 rfl rfl ?_
                  refine LW.move rfl rfl ?_
                  refine LW.on 160 rfl rfl ?_
                  refine LW.neq false rfl rfl (bne_eq_false_iff_eq.2 (by omega)) rfl ?_
                  refine LW.on 154 rfl rfl ?_
                  refine LW.pickF rfl rfl rfl ?_
                  refine LW.on 147 rfl rfl ?_
                  refine LW.pickT rfl rfl rfl ?_
                  refine LW.pickF rfl rfl rfl ?_
                  refine LW.nil ?_
                  refine NW.then_ ?_
                  refine CW.cond_false rfl ?_
                  refine CW.skip ?_
                  refine NW.then_ ?_
                  refine CW.seq ?_
                  refine CW.seq ?_
                  refine CW.region ?_
                  refine LW.move rfl rfl ?_
                  refine LW.neq true rfl rfl (bne_iff_ne.2 (by omega)) rfl ?_
                  refine LW.nil ?_
                  refine NW.then_ ?_
                  refine CW.cond_true rfl ?_
                  refine CW.seq ?_
                  refine CW.region ?_
                  refine LW.move rfl rfl ?_
                  refine LW.eql true rfl rfl (beq_iff_eq.2 (by omega)) rfl ?_
                  refine LW.move rfl rfl ?_
                  refine LW.on 172 rfl rfl ?_
                  refine LW.move rfl rfl ?_
                  refine LW.pickT rfl rfl rfl ?_
                  refine LW.assign rfl rfl ?_
                  refine LW.nil ?_
                  refine NW.then_ ?_
                  refine CW.ret ?_
                  refine NW.then_ret ?_
                  refine NW.block_ret ?_
                  refine NW.then_ret ?_
                  refine NW.then_ret ?_
                  refine NW.block_ret ?_
                  refine NW.then_ret ?_
                  refine NW.ret1 rfl rfl ⟨_, ⟨rfl, rfl⟩, ?_⟩
                  exact Sub.nil _
              · refine LW.call (wal_Open_ok W B cp' cn cw cl 256 (d3.crash 256 keep) (ho3.crash keep) hf3 hc3) Tryd.func28 rfl FactsLawSnapAll.fname28 ⟨rfl, trivial⟩ (by repeat (first | exact Take.head _ _ | apply Take.tail)) rfl ?_
                rintro _ _ ⟨l5, q5, v5, vs5, ch5, ar5, rfl, ho5, hr5, rfl⟩; obtain ⟨A5, cp5, rfl, hA5, hc5⟩ := OwnS.val ho5; refine LW.split2 (LW.split2p (LW.split3p (LW.split3p ?_)))
                refine LW.move rfl rfl ?_
                refine LW.extract rfl rfl rfl ?_
                refine LW.extract rfl rfl rfl ?_
                refine LW.extract rfl rfl rfl ?_
                refine LW.assign rfl rfl ?_
                refine LW.assign rfl rfl ?_
                refine LW.assign rfl rfl ?_
                refine LW.nil ?_
                refine NW.then_ ?_
                refine CW.seq ?_
                refine CW.seq ?_
                refine CW.region ?_
                refine LW.move rfl rfl ?_
                refine LW.neq false rfl rfl (bne_eq_false_iff_eq.2 (by omega)) rfl ?_
                refine LW.nil ?_
                refine NW.then_ ?_
                refine CW.cond_false rfl ?_
                refine CW.skip ?_
                refine NW.then_ ?_
                refine CW.seq ?_
                refine CW.region ?_
                refine LW.move rfl rfl ?_
                refine LW.move rfl rfl ?_
                have hac := ha3
                refine LW.call (snap_Get_at W B l5 q5 cp' cn cw cl 256 (d3.crash 256 keep) (ho3.crash keep) _ 0 t (getL_area (a := putTo g2.log) rfl (putTo_two g2.log) rfl (by omega) (fun i hi => ok_len (ho3.crash keep) hi) hac)) Tryd.func34 rfl FactsLawSnapAll.fname34 ⟨rfl, rfl, trivial⟩ (Take.both (by repeat (first | exact Take.head _ _ | apply Take.tail)) (by repeat (first | exact Take.head _ _ | apply Take.tail))) rfl ?_
                rintro _ _ ⟨A9, cp9, ch9, rfl, hx9, _, _, rfl⟩; refine LW.split2 (LW.split2p ?_)
                refine LW.move rfl rfl ?_
                refine LW.extract rfl rfl rfl ?_
                refine LW.extract rfl rfl rfl ?_
                refine LW.assign rfl rfl ?_
                refine LW.assign rfl rfl ?_
                refine LW.nil ?_
                refine NW.then_ ?_
                refine CW.seq ?_
                refine CW.region ?_
                refine LW.move rfl rfl ?_
                refine LW.bytesStr (t) rfl Tryd.underlying31 Tryd.underlying5 Tryd.underlying9 (hx9.rd (by repeat (first | exact Take.head _ _ | apply Take.tail))) (rfl) rfl ?_
                refine LW.move rfl rfl ?_
                refine LW.bytesStr (t) rfl Tryd.underlying31 Tryd.underlying5 Tryd.underlying9 ((srcText W B b2 t).rd (by repeat (first | exact Take.head _ _ | apply Take.tail))) (rfl) rfl ?_
                refine LW.strEql (true) rfl rfl Tryd.underlying9 (decide_eq_true rfl) rfl ?_
                refine LW.move rfl rfl ?_
                refine LW.on 132 rfl rfl ?_
                refine LW.move rfl rfl ?_
                refine LW.on 132 rfl rfl ?_
                refine LW.lenSlice rfl Tryd.underlying36 rfl ?_
                refine LW.on 132 rfl rfl ?_
                refine LW.eql true rfl rfl (rfl) rfl ?_
                refine LW.pickT rfl rfl rfl ?_
                refine LW.assign rfl rfl ?_
                refine LW.nil ?_
                refine NW.then_ ?_
                refine CW.seq ?_
                refine CW.seq ?_
                refine CW.region ?_
                refine LW.move rfl rfl ?_
                refine LW.neq false rfl rfl (bne_eq_false_iff_eq.2 (by omega)) rfl ?_
                refine LW.move rfl rfl ?_
                refine LW.on 139 rfl rfl ?_
                refine LW.move rfl rfl ?_
                refine LW.on 139 rfl rfl ?_
                refine LW.eql false rfl rfl (beq_eq_false_iff_ne.2 (by omega)) rfl ?_
                refine LW.on 139 rfl rfl ?_
                refine LW.move rfl rfl ?_
                refine LW.off 142 rfl rfl rfl rfl ?_
                refine LW.off 142 rfl rfl rfl rfl ?_
                refine LW.on 139 rfl rfl ?_
                refine LW.pickF rfl rfl rfl ?_
                refine LW.pickF rfl rfl rfl ?_
                refine LW.move rfl rfl ?_
                refine LW.on 147 rfl rfl ?_
                refine LW.move rfl rfl ?_
                refine LW.on 147 rfl rfl ?_
                refine LW.neq true rfl rfl (bne_iff_ne.2 (by omega)) rfl ?_
                refine LW.on 147 rfl rfl ?_
                refine LW.move rfl rfl ?_
                refine LW.on 150 rfl rfl ?_
                refine LW.move rfl rfl ?_
                refine LW.on 150 rfl rfl ?_
                refine LW.not (false) rfl (rfl) rfl ?_
                refine LW.on 147 rfl rfl ?_
                refine LW.pickT rfl rfl rfl ?_
                refine LW.on 147 rfl rfl ?_
                refine LW.move rfl rfl ?_
                refine LW.off 154 rfl rfl rfl rfl ?_
                refine LW.off 154 rfl rfl rfl rfl ?_
                refine LW.off 154 rfl rfl rfl rfl ?_
                refine LW.off 154 rfl rfl rfl rfl ?_
                refine LW.off 154 rfl rfl rfl rfl ?_
                refine LW.off 154 rfl rfl rfl rfl ?_
                refine LW.offU 160 rfl rfl rfl ?_
                refine LW.offU 160 rfl rfl rfl ?_
                refine LW.offU 160 rfl rfl rfl ?_
                refine LW.offU 160 rfl rfl rfl ?_
                refine LW.off 154 rfl rfl rfl rfl ?_
                refine LW.on 147 rfl rfl ?_
                refine LW.pickF rfl rfl rfl ?_
                refine LW.pickF rfl rfl rfl ?_
                refine LW.nil ?_
                refine NW.then_ ?_
                refine CW.cond_false rfl ?_
                refine CW.skip ?_
                refine NW.then_ ?_
                refine CW.seq ?_
                refine CW.seq ?_
                refine CW.region ?_
                refine LW.move rfl rfl ?_
                refine LW.neq true rfl rfl (bne_iff_ne.2 (by omega)) rfl ?_
                refine LW.nil ?_
                refine NW.then_ ?_
                refine CW.cond_true rfl ?_
                refine CW.seq ?_
                refine CW.region ?_
                refine LW.move rfl rfl ?_
                refine LW.eql true rfl rfl (beq_iff_eq.2 (by omega)) rfl ?_
                refine LW.move rfl rfl ?_
                refine LW.on 172 rfl rfl ?_
                refine LW.move rfl rfl ?_
                refine LW.pickT rfl rfl rfl ?_
                refine LW.assign rfl rfl ?_
                refine LW.nil ?_
                refine NW.then_ ?_
                refine CW.ret ?_
                refine NW.then_ret ?_
                refine NW.block_ret ?_
                refine NW.then_ret ?_
                refine NW.then_ret ?_
                refine NW.block_ret ?_
                refine NW.then_ret ?_
                refine NW.ret1 rfl rfl ⟨_, ⟨rfl, rfl⟩, ?_⟩
                exact Sub.nil _
          · refine LW.eql false rfl rfl (beq_eq_false_iff_ne.2 (by omega)) rfl ?_
            refine LW.assign rfl rfl ?_
            refine LW.nil ?_
            refine NW.then_ ?_
            refine CW.seq ?_
            refine CW.seq ?_
            refine CW.region ?_
            refine LW.move rfl rfl ?_
            refine LW.nil ?_
            refine NW.then_ ?_
            refine CW.cond_false rfl ?_
            refine CW.skip ?_
            refine NW.then_ ?_
            refine CW.seq ?_
            refine CW.region ?_
            refine LW.move rfl rfl ?_
            refine LW.move rfl rfl ?_
            refine LW.move rfl rfl ?_
            refine LW.call (snap_Put_ok W B l q p bn bw bl 256 d2 hr2 hg2 hl2 (by omega) t (by omega) [cr b2 5 (t.map u8v)] (some ⟨b2, 0, none⟩) t.length (srcText W B _ _) (Nat.le_refl _)) Tryd.func37 rfl FactsLawSnapAll.fname37 ⟨rfl, rfl, rfl, trivial⟩ (Take.both (by repeat (first | exact Take.head _ _ | apply Take.tail)) (Take.both (Take.both (by repeat (first | exact Take.head _ _ | apply Take.tail)) (by repeat (first | exact Take.head _ _ | apply Take.tail))) (by repeat (first | exact Take.head _ _ | apply Take.tail)))) rfl ?_
            rintro _ _ ⟨rfl, d3, hr3, hf3, hl3, ha3, rfl⟩; have ho3 := hr3.ok; have hfl3 := hr3.flat; refine LW.split2 (LW.split2p (LW.split2p ?_))
            refine LW.assign rfl rfl ?_
            refine LW.nil ?_
            refine NW.then_ ?_
            refine CW.seq ?_
            refine CW.region ?_
            refine LW.move rfl rfl ?_
            refine LW.move rfl rfl ?_
            refine LW.call (dev_Crash W B p bn bw bl 256 d3 ho3 [] A2 cp2 keep hsrc) Tryd.func29 rfl FactsLawSnapAll.fname29 ⟨rfl, rfl, trivial⟩ (Take.both (Take.none _) (by repeat (first | exact Take.head _ _ | apply Take.tail))) rfl ?_
            rintro _ _ ⟨cp', cn, cw, cl, rfl, rfl⟩; refine LW.split2 (LW.split2p ?_)
            refine LW.assign rfl rfl ?_
            refine LW.nil ?_
            refine NW.then_ ?_
            refine CW.seq ?_
            refine CW.region ?_
            refine LW.move rfl rfl ?_
            refine LW.call (wal_Open_ok W B cp' cn cw cl 256 (d3.crash 256 keep) (ho3.crash keep) hf3 (crash_log ho3 hfl3 hf3 hl3 keep)) Tryd.func28 rfl FactsLawSnapAll.fname28 ⟨rfl, trivial⟩ (by repeat (first | exact Take.head _ _ | apply Take.tail)) rfl ?_
            rintro _ _ ⟨l5, q5, v5, vs5, ch5, ar5, rfl, ho5, hr5, rfl⟩; obtain ⟨A5, cp5, rfl, hA5, hc5⟩ := OwnS.val ho5; refine LW.split2 (LW.split2p (LW.split3p (LW.split3p ?_)))
            refine LW.move rfl rfl ?_
            refine LW.extract rfl rfl rfl ?_
            refine LW.extract rfl rfl rfl ?_
            refine LW.extract rfl rfl rfl ?_
            refine LW.assign rfl rfl ?_
            refine LW.assign rfl rfl ?_
            refine LW.assign rfl rfl ?_
            refine LW.nil ?_
            refine NW.then_ ?_
            refine CW.seq ?_
            refine CW.seq ?_
            refine CW.region ?_
            refine LW.move rfl rfl ?_
            refine LW.neq false rfl rfl (bne_eq_false_iff_eq.2 (by omega)) rfl ?_
            refine LW.nil ?_
            refine NW.then_ ?_
            refine CW.cond_false rfl ?_
            refine CW.skip ?_
            refine NW.then_ ?_
            refine CW.seq ?_
            refine CW.region ?_
            refine LW.move rfl rfl ?_
            refine LW.move rfl rfl ?_
            have hac := (hold_area hfl3 (fun j hj => by unfold beginN; have := putTo_two g2.log; omega) ha3).crash ho3 keep
            refine LW.call (snap_Get_at W B l5 q5 cp' cn cw cl 256 (d3.crash 256 keep) (ho3.crash keep) _ 0 t (getL_area (a := putTo g2.log) rfl (putTo_two g2.log) rfl (by omega) (fun i hi => ok_len (ho3.crash keep) hi) hac)) Tryd.func34 rfl FactsLawSnapAll.fname34 ⟨rfl, rfl, trivial⟩ (Take.both (by repeat (first | exact Take.head _ _ | apply Take.tail)) (by repeat (first | exact Take.head _ _ | apply Take.tail))) rfl ?_
            rintro _ _ ⟨A9, cp9, ch9, rfl, hx9, _, _, rfl⟩; refine LW.split2 (LW.split2p ?_)
            refine LW.move rfl rfl ?_
            refine LW.extract rfl rfl rfl ?_
            refine LW.extract rfl rfl rfl ?_
            refine LW.assign rfl rfl ?_
            refine LW.assign rfl rfl ?_
            refine LW.nil ?_
            refine NW.then_ ?_
            refine CW.seq ?_
            refine CW.region ?_
            refine LW.move rfl rfl ?_
            refine LW.bytesStr (t) rfl Tryd.underlying31 Tryd.underlying5 Tryd.underlying9 (hx9.rd (by repeat (first | exact Take.head _ _ | apply Take.tail))) (rfl) rfl ?_
            refine LW.move rfl rfl ?_
            refine LW.bytesStr (t) rfl Tryd.underlying31 Tryd.underlying5 Tryd.underlying9 ((srcText W B b2 t).rd (by repeat (first | exact Take.head _ _ | apply Take.tail))) (rfl) rfl ?_
            refine LW.strEql (true) rfl rfl Tryd.underlying9 (decide_eq_true rfl) rfl ?_
            refine LW.move rfl rfl ?_
            refine LW.on 132 rfl rfl ?_
            refine LW.move rfl rfl ?_
            refine LW.on 132 rfl rfl ?_
            refine LW.lenSlice rfl Tryd.underlying36 rfl ?_
            refine LW.on 132 rfl rfl ?_
            refine LW.eql true rfl rfl (rfl) rfl ?_
            refine LW.pickT rfl rfl rfl ?_
            refine LW.assign rfl rfl ?_
            refine LW.nil ?_
            refine NW.then_ ?_
            refine CW.seq ?_
            refine CW.seq ?_
            refine CW.region ?_
            refine LW.move rfl rfl ?_
            refine LW.neq false rfl rfl (bne_eq_false_iff_eq.2 (by omega)) rfl ?_
            refine LW.move rfl rfl ?_
            refine LW.on 139 rfl rfl ?_
            refine LW.move rfl rfl ?_
            refine LW.on 139 rfl rfl ?_
            refine LW.eql true rfl rfl (beq_iff_eq.2 (by omega)) rfl ?_
            refine LW.on 139 rfl rfl ?_
            refine LW.move rfl rfl ?_
            refine LW.on 142 rfl rfl ?_
            refine LW.move rfl rfl ?_
            refine LW.on 142 rfl rfl ?_
            refine LW.not (false) rfl (rfl) rfl ?_
            refine LW.on 139 rfl rfl ?_
            refine LW.pickT rfl rfl rfl ?_
            refine LW.pickF rfl rfl rfl ?_
            refine LW.move rfl rfl ?_
            refine LW.on 147 rfl rfl ?_
            refine LW.move rfl rfl ?_
            refine LW.on 147 rfl rfl ?_
            refine LW.neq false rfl rfl (bne_eq_false_iff_eq.2 (by omega)) rfl ?_
            refine LW.on 147 rfl rfl ?_
            refine LW.move rfl rfl ?_
            refine LW.off 150 rfl rfl rfl rfl ?_
            refine LW.off 150 rfl rfl rfl rfl ?_
            refine LW.on 147 rfl rfl ?_
            refine LW.pickF rfl rfl rfl ?_
            refine LW.on 147 rfl rfl ?_
            refine LW.move rfl rfl ?_
            refine LW.off 154 rfl rfl rfl rfl ?_
            refine LW.off 154 rfl rfl rfl rfl ?_
            refine LW.off 154 rfl rfl rfl rfl ?_
            refine LW.off 154 rfl rfl rfl rfl ?_
            refine LW.off 154 rfl rfl rfl rfl ?_
            refine LW.off 154 rfl rfl rfl rfl ?_
            refine LW.offU 160 rfl rfl rfl ?_
            refine LW.offU 160 rfl rfl rfl ?_
            refine LW.offU 160 rfl rfl rfl ?_
            refine LW.offU 160 rfl rfl rfl ?_
            refine LW.off 154 rfl rfl rfl rfl ?_
            refine LW.on 147 rfl rfl ?_
            refine LW.pickF rfl rfl rfl ?_
            refine LW.pickF rfl rfl rfl ?_
            refine LW.nil ?_
            refine NW.then_ ?_
            refine CW.cond_false rfl ?_
            refine CW.skip ?_
            refine NW.then_ ?_
            refine CW.seq ?_
            refine CW.seq ?_
            refine CW.region ?_
            refine LW.move rfl rfl ?_
            refine LW.neq false rfl rfl (bne_eq_false_iff_eq.2 (by omega)) rfl ?_
            refine LW.nil ?_
            refine NW.then_ ?_
            refine CW.cond_false rfl ?_
            refine CW.skip ?_
            refine NW.then_ ?_
            refine CW.seq ?_
            refine CW.seq ?_
            refine CW.region ?_
            refine LW.move rfl rfl ?_
            refine LW.nil ?_
            refine NW.then_ ?_
            refine CW.cond_false rfl ?_
            refine CW.skip ?_
            refine NW.then_ ?_
            refine CW.region ?_
            refine LW.move rfl rfl ?_
            refine LW.assign rfl rfl ?_
            refine LW.assign rfl rfl ?_
            refine LW.nil ?_
            refine NW.block ?_
            refine NW.then_ ?_
            refine CW.region ?_
            refine LW.move rfl rfl ?_
            refine LW.add ((i + 1 : Int)) rfl rfl (by first | rfl | exact wr64 (by omega) (by omega) (by omega)) rfl ?_
            refine LW.assign rfl rfl ?_
            refine LW.nil ?_
            refine NW.meet (⟨i + 1, ⟨g2.serial + 1, putTo g2.log, t.length, []⟩, d3, t, some ⟨b2, 0, none⟩, t.length, [cr b2 5 (t.map u8v)]⟩) ?j2 ?e2 ?h2
            case j2 => exact ⟨⟨by dsimp only; omega, hr3, hf3, hl3, by dsimp only; omega, Nat.zero_le _, Nat.zero_le _, WasAt.put (by omega) ha3, srcText W B _ _⟩, by dsimp only; omega⟩
            case e2 => repeat (first | exact Env.Le.nil _ | refine Env.Le.cons rfl ?_)
            case h2 => repeat (first | exact Sub.heap_nil _ | exact Sub.refl _ | refine Sub.heap_cons (Take.none _) ?_ | refine Sub.heap_cons (by repeat (first | exact Take.head _ _ | apply Take.tail)) ?_)
      · refine LW.on 60 rfl rfl ?_
        refine LW.lss false rfl rfl (decide_eq_false (by omega)) rfl ?_
        refine LW.pickT rfl rfl rfl ?_
        refine LW.nil ?_
        refine NW.then_ ?_
        refine CW.cond_false rfl ?_
        refine CW.exit ?_
        refine NW.then_exit ?_
        refine NW.then_exit ?_
        refine NW.block_exit ?_
        refine NW.then_ ?_
        refine CW.seq ?_
        refine CW.region ?_
        refine LW.assign rfl rfl ?_
        refine LW.nil ?_
        refine NW.then_ ?_
        refine CW.ret ?_
        refine NW.ret1 rfl rfl ⟨_, ⟨rfl, rfl⟩, ?_⟩
        exact Sub.nil _
    · refine LW.lss false rfl rfl (decide_eq_false (by omega)) rfl ?_
      refine LW.move rfl rfl ?_
      refine LW.off 60 rfl rfl rfl rfl ?_
      refine LW.off 60 rfl rfl rfl rfl ?_
      refine LW.pickF rfl rfl rfl ?_
      refine LW.nil ?_
      refine NW.then_ ?_
      refine CW.cond_false rfl ?_
      refine CW.exit ?_
      refine NW.then_exit ?_
      refine NW.then_exit ?_
      refine NW.block_exit ?_
      refine NW.then_ ?_
      refine CW.seq ?_
      refine CW.region ?_
      refine LW.assign rfl rfl ?_
      refine LW.nil ?_
      refine NW.then_ ?_
      refine CW.ret ?_
      refine NW.ret1 rfl rfl ⟨_, ⟨rfl, rfl⟩, ?_⟩
      exact Sub.nil _
end
end Go.Proofs.YtpnhonhjheahhaaDoor
