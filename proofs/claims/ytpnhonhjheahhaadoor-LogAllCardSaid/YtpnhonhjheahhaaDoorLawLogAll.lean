/-
  LogAll, walked.
-/
import Derived.Test.YtpnhonhjheahhaaDoorFuz5
import Derived.Test.YtpnhonhjheahhaaDoorOps4
namespace Go.Proofs.YtpnhonhjheahhaaDoor
open Go.RowKit
namespace FactsLawLogAll
theorem fa73_0 (b o : Nat) (w : World) : (Instr.fieldAt 73 (.pointer (some ⟨b, o, none⟩)) 0).run Tryd.prog w = .ok (.pointer (some ⟨b, o, none⟩)) w := by kernel_rfl
theorem fa73_1 (b o : Nat) (w : World) : (Instr.fieldAt 73 (.pointer (some ⟨b, o, none⟩)) 1).run Tryd.prog w = .ok (.pointer (some ⟨b, o + 1, none⟩)) w := by kernel_rfl
theorem fa73_2 (b o : Nat) (w : World) : (Instr.fieldAt 73 (.pointer (some ⟨b, o, none⟩)) 2).run Tryd.prog w = .ok (.pointer (some ⟨b, o + 2, none⟩)) w := by kernel_rfl
theorem fa73_3 (b o : Nat) (w : World) : (Instr.fieldAt 73 (.pointer (some ⟨b, o, none⟩)) 3).run Tryd.prog w = .ok (.pointer (some ⟨b, o + 3, none⟩)) w := by kernel_rfl
theorem fname21 : (Tryd.f21.name == "runtime.NumGoroutine") = false := by kernel_rfl
theorem fname22 : (Tryd.f22.name == "runtime.NumGoroutine") = false := by kernel_rfl
theorem fname23 : (Tryd.f23.name == "runtime.NumGoroutine") = false := by kernel_rfl
theorem fname24 : (Tryd.f24.name == "runtime.NumGoroutine") = false := by kernel_rfl
theorem fname25 : (Tryd.f25.name == "runtime.NumGoroutine") = false := by kernel_rfl
theorem fname26 : (Tryd.f26.name == "runtime.NumGoroutine") = false := by kernel_rfl
theorem fname27 : (Tryd.f27.name == "runtime.NumGoroutine") = false := by kernel_rfl
theorem fname28 : (Tryd.f28.name == "runtime.NumGoroutine") = false := by kernel_rfl
theorem fname29 : (Tryd.f29.name == "runtime.NumGoroutine") = false := by kernel_rfl
theorem fname30 : (Tryd.f30.name == "runtime.NumGoroutine") = false := by kernel_rfl
theorem fname31 : (Tryd.f31.name == "runtime.NumGoroutine") = false := by kernel_rfl
theorem fname41 : (Tryd.f41.name == "runtime.NumGoroutine") = false := by kernel_rfl
theorem info31 : (Tryd.prog.info? 31).map (fun i => (i.zero, i.size, i.bytes)) = some (some (.slice none 0 0), 1, 24) := by kernel_rfl
theorem ixs36 : (Tryd.prog.info? 31).map (·.size) = some 1 := by kernel_rfl
theorem ixs71 : (Tryd.prog.info? 73).map (·.size) = some 4 := by kernel_rfl
theorem one3 : oneB Tryd.prog 3 = true := by kernel_rfl
theorem one31 : oneB Tryd.prog 31 = true := by kernel_rfl
theorem one35 : oneB Tryd.prog 35 = true := by kernel_rfl
theorem one5 : oneB Tryd.prog 5 = true := by kernel_rfl
theorem szt73 : (Tryd.prog.info? 73).map (·.size) = some 4 := by kernel_rfl
theorem zero73 : (Tryd.prog.info? 73).bind (·.zero) = some (.agg #[.int .i64 0, .int .i64 0, .int .u8 0, .slice none 0 0]) := by kernel_rfl
end FactsLawLogAll
structure OpS where
  kind : Int
  i : Int
  x : UInt8
  A : Option Addr
  cp : Nat
  keep : List Bool
def opV (o : OpS) : List Value := [.int .i64 o.kind, .int .i64 o.i, u8v o.x, .slice o.A o.keep.length o.cp]
theorem opV_one (o : OpS) : ∀ v ∈ opV o, v.oneCell' = true := by
  intro v hv
  simp [opV, u8v] at hv
  rcases hv with rfl | rfl | rfl | rfl <;> rfl
def OpsAt (W : World) (B : Nat) (A : Option Addr) (os : List OpS) : Prop := os = [] ∨ ∃ a, A = some a ∧ a.block < B ∧ ∀ j o, os[j]? = some o → (∀ q v, (opV o)[q]? = some v → W.cell? ((a.add (j * 4)).add q) = some v) ∧ Src W B [] o.A (o.keep.map .bool) ∧ I64 o.i
/-- A log's area and length go together. -/
def ArOk (g : LogS) : Prop := (g.length = g.area + 1 ∨ g.length = 0) ∧ -1000000 < g.area ∧ g.area < 1000000
theorem ar0 : ArOk ⟨0 + 1, 0, 0, []⟩ := ⟨.inr rfl, by decide, by decide⟩
/-- Between two operations. -/
structure AllE where
  g : LogS
  d : DevS
  p : Nat
  bn : Nat
  bw : Nat
  bl : Nat
  l : Nat
  q : Nat
  v : Value
  vs : List Value
  ch : List Row
  rr : List Row
structure AllE.Ok (W : World) (B n : Nat) (k : Int) (st : AllE) : Prop where
  ok : st.d.Ok n
  flat : Flat st.d
  fine : st.g.Fine n
  at_ : LogAt st.d.N st.g
  ser : st.g.serial ≤ k
  own : OwnS 31 1 st.v st.g.recs.length st.vs st.ch
  recs : RecsAt W B st.rr st.vs st.g.recs
  ar : ArOk st.g
/-- Behind an operation, ahead of the crash that may follow. -/
structure AllT where
  g : LogS
  g2 : LogS
  d : DevS
  L : LogV
  c : Bool
  v : Value
  vs : List Value
  ch : List Row
  mv : Value
  mo : Int
  mvs : List Value
  mch : List Row
  rr : List Row
structure AllT.Ok (W : World) (B n : Nat) (k : Int) (st : AllT) : Prop where
  ok : st.d.Ok n
  fine : st.g.Fine n
  fine2 : st.g2.Fine n
  own : OwnS 31 1 st.v st.g.recs.length st.vs st.ch
  recs : RecsAt W B st.rr st.vs st.g.recs
  ar : ArOk st.g
  ar2 : ArOk st.g2
  ser : st.g.serial ≤ k
  ser2 : st.g2.serial ≤ k
  no : st.c = false → Flat st.d ∧ LogAt st.d.N st.g ∧ st.L = st.g.log
  yes : st.c = true → (∀ X, Mix n st.d X → LogAt X st.g ∨ LogAt X st.g2) ∧ (∃ A cp, st.mv = .slice A st.g2.recs.length cp ∧ Src W B (st.ch ++ st.mch) A st.mvs ∧ RecsAt W B st.rr st.mvs st.g2.recs) ∧ st.mo = st.g2.area
theorem ring_wrap' (n : Nat) (h0 : 64 ≤ n) (h : n ≤ 4096) : IntKind.wrap .i64 (64 * ((n : Int) / 2 - 2)) = (ringN n : Int) := by
  unfold ringN
  exact wr64 (by omega) (by omega) (by omega)
theorem recsB_take (l : List (List UInt8)) (j : Nat) : (recsB (l.take j)).length ≤ (recsB l).length := by
  have := congrArg List.length (recsB_app (l.take j) (l.drop j))
  rw [List.take_append_drop, List.length_append] at this
  omega
theorem recsB_take_succ (l : List (List UInt8)) (j : Nat) (h : j < l.length) : (recsB (l.take (j + 1))).length = (recsB (l.take j)).length + ((l.getD j []).length + 2) := by
  rw [List.take_add_one, recsB_app, List.length_append, List.getElem?_eq_getElem h]
  simp [List.getD, List.getElem?_eq_getElem h, recsB, recB_len]
theorem recs_count {n : Nat} {g : LogS} (h : g.Fine n) : g.recs.length ≤ g.used := by
  have key : ∀ l : List (List UInt8), l.length ≤ (recsB l).length := by
    intro l
    induction l with
    | nil => exact Nat.zero_le _
    | cons b l ih => rw [recsB_cons, List.length_append, recB_len, List.length_cons]; omega
  exact key g.recs
section
variable (W : World) (B : Nat)
theorem wal_Append_no' (l q p bn bw bl n : Nat) (s : DevS) (hr : s.Ok n) {g : LogS} (hg : g.Fine n) (b : List UInt8) (hbn : b.length ≤ 1000000000) (e : Int) (he : (e = 1 ∧ ¬ okRec b) ∨ (e = 5 ∧ okRec b ∧ ringN n < g.used + b.length + 2)) (src : List Row) (A : Option Addr) (cp : Nat) (hsrc : Src W B src A (b.map u8v)) :
    Spec Tryd.prog W B 25 [.pointer (some ⟨l, 0, none⟩), .slice A b.length cp] (src ++ (logC l q p g.log ++ devC p bn bw bl n s))
      (fun v post => v = .int .i64 e ∧ post = src ++ (logC l q p g.log ++ devC p bn bw bl n s)) := by
  have hap : appendL n s g.log b = (e, s, g.log) := by
    unfold appendL
    rcases he with ⟨rfl, h⟩ | ⟨rfl, h, h2⟩
    · rw [if_pos (by unfold okRec at h; omega)]
    · rw [if_neg (by have := h.1; have := h.2; omega), if_pos (by have : g.log.used = g.used := rfl; omega)]
  refine (wal_Append W B l q p bn bw bl n s hr g.log (hg.In hr.n1) rfl rfl b src A cp hbn hsrc).mono ?_
  rw [hap]
  rintro v post ⟨rfl, rfl⟩
  exact ⟨rfl, rfl⟩
set_option maxHeartbeats 8000000 in
theorem law_LogAll (h0 : 0 < B) (hg : W.cell? ⟨0, 0, none⟩ = some (rty 110)) (z : Int) (A : Option Addr) (cp : Nat) (os : List OpS) (hos : OpsAt W B A os) :
    Spec Tryd.prog W B 15 [.int .i64 z, .slice A os.length cp] [] (fun v post => v = .bool true ∧ post = []) := by
  obtain ⟨m, hm, hm2, hx1, hx2⟩ := mod_pos z 100 (by decide) (by decide)
  have hr0 := Rest.zero (n := 64 + m) (by omega) (by omega)
  have hs0 := zero_slot (64 + m) (by omega)
  refine Spec.enter ([]) Tryd.func15 rfl Tryd.ntmps15 rfl (by first | rfl | simp) (fun w0 => ?_)
  refine CW.seq ?_
  refine CW.region ?_
  refine LW.assign rfl rfl ?_
  refine LW.nil ?_
  refine NW.then_ ?_
  refine CW.seq ?_
  refine CW.region ?_
  refine LW.call (law_begun4 W B h0 hg) Tryd.func21 rfl FactsLawLogAll.fname21 trivial (Take.none _) rfl ?_
  rintro _ _ ⟨rfl, rfl⟩
  refine LW.assign rfl rfl ?_
  refine LW.nil ?_
  refine NW.then_ ?_
  refine CW.seq ?_
  refine CW.seq ?_
  refine CW.region ?_
  refine LW.move rfl rfl ?_
  refine LW.not (false) rfl (rfl) rfl ?_
  refine LW.nil ?_
  refine NW.then_ ?_
  refine CW.cond_false rfl ?_
  refine CW.skip ?_
  refine NW.then_ ?_
  refine CW.seq ?_
  refine CW.region ?_
  refine LW.move rfl rfl ?_
  refine LW.rem (z.tmod 100) rfl rfl (by decide) (rfl) rfl ?_
  refine LW.add (z.tmod 100 + 100) rfl rfl (by first | rfl | exact wr64 (by omega) (by omega) (by omega)) rfl ?_
  refine LW.rem ((m : Int)) rfl rfl (by decide) (hm) rfl ?_
  refine LW.add (((64 + m : Nat) : Int)) rfl rfl (by first | rfl | exact wr64 (by omega) (by omega) (by omega)) rfl ?_
  refine LW.assign rfl rfl ?_
  refine LW.nil ?_
  refine NW.then_ ?_
  refine CW.seq ?_
  generalize hnm : 64 + m = n at hr0 hs0 ⊢
  have hrn : ringN n ≤ 1000000 := by unfold ringN; omega
  refine CW.region ?_
  refine LW.move rfl rfl ?_
  refine LW.call (dev_New W B n (by omega) (by omega)) Tryd.func23 rfl FactsLawLogAll.fname23 ⟨rfl, trivial⟩ (Take.none _) rfl ?_
  rintro _ _ ⟨p, bn, bw, bl, rfl, rfl⟩
  refine LW.assign rfl rfl ?_
  refine LW.nil ?_
  refine NW.then_ ?_
  refine CW.seq ?_
  generalize DevS.zero n = d0 at hr0 hs0 ⊢
  refine CW.region ?_
  refine LW.move rfl rfl ?_
  refine LW.call (wal_Make_ok W B p bn bw bl n d0 hr0.ok hr0.up (hold_slot hr0.flat (by omega) hs0) (by decide)) Tryd.func22 rfl FactsLawLogAll.fname22 ⟨rfl, trivial⟩ (by repeat (first | exact Take.head _ _ | apply Take.tail)) rfl ?_
  rintro _ _ ⟨l, q, d1, rfl, hr1, hf1, hl1, _, rfl⟩; refine LW.split2 (LW.split2 ?_)
  refine LW.move rfl rfl ?_
  refine LW.extract rfl rfl rfl ?_
  refine LW.extract rfl rfl rfl ?_
  refine LW.assign rfl rfl ?_
  refine LW.assign rfl rfl ?_
  refine LW.nil ?_
  refine NW.then_ ?_
  refine CW.seq ?_
  refine CW.seq ?_
  refine CW.region ?_
  refine LW.move rfl rfl ?_
  refine LW.neq false rfl rfl (bne_eq_false_iff_eq.2 (by omega)) rfl ?_
  refine LW.nil ?_
  refine NW.then_ ?_
  refine CW.cond_false rfl ?_
  refine CW.skip ?_
  refine NW.then_ ?_
  refine CW.seq ?_
  refine CW.region ?_
  refine LW.move rfl rfl ?_
  refine LW.quoN rfl rfl (by omega) (by omega) rfl ?_
  refine LW.sub64 rfl rfl (by omega) (by omega) rfl ?_
  refine LW.mul ((ringN n : Int)) rfl rfl (ring_wrap' n (by omega) (by omega)) rfl ?_
  refine LW.assign rfl rfl ?_
  refine LW.nil ?_
  refine NW.then_ ?_
  refine CW.seq ?_
  refine CW.region ?_
  refine LW.assign rfl rfl ?_
  refine LW.nil ?_
  refine NW.then_ ?_
  refine CW.seq ?_
  refine CW.region ?_
  refine LW.assign rfl rfl ?_
  refine LW.assign rfl rfl ?_
  refine LW.nil ?_
  refine NW.then_ ?_
  refine CW.seq ?_
  refine CW.seq ?_
  refine CW.region ?_
  refine LW.assign rfl rfl ?_
  refine LW.nil ?_
  refine NW.then_ ?_
  refine CW.block ?_
  refine CW.loop (fun st : Nat × AllE => [(13, .int .i64 (st.1 : Int)), (12, .int .i64 (st.2.g.used : Int)), (11, .int .i64 st.2.g.area), (10, st.2.v), (9, .int .i64 (ringN n : Int)), (7, .pointer (some ⟨st.2.l, 0, none⟩)), (6, .pointer (some ⟨st.2.p, 0, none⟩)), (1, .slice A os.length cp)]) (fun st => [[logR st.2.l st.2.q st.2.p st.2.g.log], [slC st.2.q st.2.p st.2.g.serial false], devC st.2.p st.2.bn st.2.bw st.2.bl n st.2.d, st.2.ch, st.2.rr]) (fun st => st.1 ≤ 30 ∧ st.2.Ok W B n (1 + (st.1 : Int))) (fun st => 30 - st.1) (0, ⟨⟨0 + 1, 0, 0, []⟩, d1, p, bn, bw, bl, l, q, .slice none 0 0, [], [], []⟩) ?st13_j ?st13_e ?st13_h ?st13_r
  case st13_j => exact ⟨Nat.zero_le _, hr1.ok, hr1.flat, hf1, hl1, by dsimp only; omega, OwnS.nil, RecsAt.nil, ar0⟩
  case st13_e => repeat (first | exact Env.Le.nil _ | refine Env.Le.cons rfl ?_)
  case st13_h => repeat (first | exact Sub.heap_nil _ | exact Sub.refl _ | refine Sub.heap_cons (Take.none _) ?_ | refine Sub.heap_cons (by repeat (first | exact Take.head _ _ | apply Take.tail)) ?_)
  case st13_r =>
    clear hr1 hf1 hl1 hr0 hs0; rintro ⟨i, ⟨g, d, p, bn, bw, bl, l, q, v, vs, ch, rr⟩⟩ ⟨hi, hok, hfl, hfi, hl, hse, ho, hra, har⟩; dsimp only at hi hok hfl hfi hl hse ho hra har
    try dsimp only
    refine CW.seq ?_
    refine CW.seq ?_
    refine CW.region ?_
    refine LW.move rfl rfl ?_
    refine LW.move rfl rfl ?_
    refine LW.lenSlice rfl Tryd.underlying71 rfl ?_
    by_cases hil : i < os.length
    · refine LW.lss true rfl rfl (decide_eq_true (by omega)) rfl ?_
      refine LW.move rfl rfl ?_
      refine LW.on 58 rfl rfl ?_
      refine LW.move rfl rfl ?_
      by_cases hi30 : i < 30
      · refine LW.on 58 rfl rfl ?_
        refine LW.lss true rfl rfl (decide_eq_true (by omega)) rfl ?_
        refine LW.pickT rfl rfl rfl ?_
        refine LW.nil ?_
        refine NW.then_ ?_
        refine CW.cond_true rfl ?_
        refine CW.skip ?_
        refine NW.then_ ?_
        refine CW.seq ?_
        refine CW.block ?_
        refine CW.seq ?_
        obtain ⟨a, rfl, hab, hoa⟩ : ∃ a, A = some a ∧ a.block < B ∧ ∀ j o, os[j]? = some o → (∀ q v, (opV o)[q]? = some v → W.cell? ((a.add (j * 4)).add q) = some v) ∧ Src W B [] o.A (o.keep.map .bool) ∧ I64 o.i := by
          rcases hos with h | h
          · rw [h] at hil; simp at hil
          · exact h
        obtain ⟨hcell, hkeep, hoI⟩ := hoa i os[i] (List.getElem?_eq_getElem hil)
        generalize os[i] = o at hcell hkeep hoI
        obtain ⟨kind, oi, ox, kA, kcp, keep⟩ := o
        dsimp only at hkeep hoI
        obtain ⟨Aw, cpw, rfl, hAw, hcw⟩ := OwnS.val ho
        obtain ⟨k, hk, hk2, hk3, hk4⟩ := mod_pos oi 300 (by decide) (by decide)
        obtain ⟨f, hf, hf2, hf3, hf4⟩ := mod_pos oi 9 (by decide) (by decide)
        obtain ⟨a1, ha1⟩ : ∃ a1, oi.tmod 1000000 = a1 := ⟨_, rfl⟩
        have ha2 := Int.tmod_lt_of_pos oi (show (0 : Int) < 1000000 by decide)
        have ha3 := Int.lt_tmod_of_pos oi (show (0 : Int) < 1000000 by decide)
        rw [ha1] at ha2 ha3
        have hfit := hfi.fits
        have hn0 := hok.n0
        have hcnt0 := recs_count hfi
        refine CW.region ?_
        refine LW.move rfl rfl ?_
        refine LW.move rfl rfl ?_
        refine LW.indexAt rfl rfl Tryd.underlying71 FactsLawLogAll.ixs71 (by omega) (by omega) rfl ?_
        refine LW.loadAggOld (opV ⟨kind, oi, ox, kA, kcp, keep⟩) rfl (by rw [block_of_add]; exact hab) (by rw [Int.toNat_natCast]; exact hcell) Tryd.underlying73 rfl (by rw [FactsLawLogAll.szt73]; rfl) rfl ?_
        refine LW.alloc FactsLawLogAll.zero73 rfl ?_
        intro ba14
        refine LW.storeAgg (opV ⟨kind, oi, ox, kA, kcp, keep⟩) rfl rfl (by repeat (first | exact Take.head _ _ | apply Take.tail)) (by rw [FactsLawLogAll.szt73]; exact congrArg some (Eq.symm (rfl))) (by exact Nat.le_refl 4) (opV_one _) (rfl) ?_
        refine LW.nil ?_
        refine NW.then_ ?_
        refine CW.seq ?_
        refine CW.region ?_
        refine LW.move rfl rfl ?_
        refine LW.move rfl rfl ?_
        refine LW.assign rfl rfl ?_
        refine LW.assign rfl rfl ?_
        refine LW.assign rfl rfl ?_
        refine LW.nil ?_
        refine NW.then_ ?_
        refine CW.cut (fun st : AllT => [(17, .bool st.c), (15, st.mv), (16, .int .i64 st.mo), (14, .pointer (some ⟨ba14, 0, none⟩)), (13, .int .i64 (i : Int)), (12, .int .i64 (st.g.used : Int)), (11, .int .i64 st.g.area), (10, st.v), (9, .int .i64 (ringN n : Int)), (7, .pointer (some ⟨l, 0, none⟩)), (6, .pointer (some ⟨p, 0, none⟩)), (1, .slice (some a) os.length cp)]) (fun st => [[cr ba14 73 (opV ⟨kind, oi, ox, kA, kcp, keep⟩)], [logR l q p st.L], [slC q p st.L.serial st.L.sbad], devC p bn bw bl n st.d, st.ch, st.mch, st.rr]) (fun st => st.Ok W B n (2 + (i : Int))) ?cut45_1 ?cut45_2
        case cut45_1 =>
          refine CW.seq ?_
          refine CW.region ?_
          refine LW.fieldAddr _ rfl (fun _ => FactsLawLogAll.fa73_0 _ _ _) rfl ?_
          refine LW.load (v := .int .i64 kind) rfl (by repeat (first | exact Take.head _ _ | apply Take.tail)) (rfl) FactsLawLogAll.one3 rfl ?_
          refine LW.nil ?_
          refine NW.then_ ?_
          refine CW.block ?_
          refine CW.seq ?_
          refine CW.region ?_
          by_cases hk0 : kind = 0
          · refine LW.eql true rfl rfl (beq_iff_eq.2 (by omega)) rfl ?_
            refine LW.assign rfl rfl ?_
            refine LW.nil ?_
            refine NW.then_ ?_
            refine CW.cond_true rfl ?_
            refine CW.seq ?_
            refine CW.region ?_
            refine LW.fieldAddr _ rfl (fun _ => FactsLawLogAll.fa73_1 _ _ _) rfl ?_
            refine LW.load (v := .int .i64 oi) rfl (by repeat (first | exact Take.head _ _ | apply Take.tail)) (rfl) FactsLawLogAll.one3 rfl ?_
            refine LW.rem (oi.tmod 300) rfl rfl (by decide) (rfl) rfl ?_
            refine LW.add (oi.tmod 300 + 300) rfl rfl (by first | rfl | exact wr64 (by omega) (by omega) (by omega)) rfl ?_
            refine LW.rem ((k : Int)) rfl rfl (by decide) (hk) rfl ?_
            refine LW.fieldAddr _ rfl (fun _ => FactsLawLogAll.fa73_2 _ _ _) rfl ?_
            refine LW.load (v := u8v ox) rfl (by repeat (first | exact Take.head _ _ | apply Take.tail)) (rfl) FactsLawLogAll.one5 rfl ?_
            refine LW.call (law_text' W B k (by omega) ox) Tryd.func26 rfl FactsLawLogAll.fname26 ⟨rfl, rfl, trivial⟩ (Take.none _) rfl ?_
            rintro _ _ ⟨b1, rfl, rfl⟩
            refine LW.assign rfl rfl ?_
            refine LW.nil ?_
            refine NW.then_ ?_
            refine CW.seq ?_
            have htz := textB_len k ox
            generalize textB k ox = t at htz ⊢
            have hua := used_app (g.serial + 1) g.area g.length g.recs t
            rw [show LogS.used ⟨g.serial + 1, g.area, g.length, g.recs⟩ = g.used from rfl] at hua
            refine CW.region ?_
            refine LW.assign rfl rfl ?_
            refine LW.nil ?_
            refine NW.then_ ?_
            refine CW.seq ?_
            refine CW.seq ?_
            refine CW.region ?_
            refine LW.move rfl rfl ?_
            refine LW.lenSlice rfl Tryd.underlying31 rfl ?_
            by_cases ht1 : t.length < 1
            · refine LW.lss true rfl rfl (decide_eq_true (by omega)) rfl ?_
              refine LW.nil ?_
              refine NW.then_ ?_
              refine CW.cond_true rfl ?_
              refine CW.region ?_
              refine LW.assign rfl rfl ?_
              refine LW.nil ?_
              refine NW.then_ ?_
              refine CW.seq ?_
              refine CW.region ?_
              refine LW.move rfl rfl ?_
              refine LW.move rfl rfl ?_
              refine LW.call (wal_Append_no' W B l q p bn bw bl n d hok hfi t (by omega) 1 (.inl ⟨rfl, fun h => by have := h.1; omega⟩) [cr b1 5 (t.map u8v)] (some ⟨b1, 0, none⟩) t.length (srcText W B _ _)) Tryd.func25 rfl FactsLawLogAll.fname25 ⟨rfl, rfl, trivial⟩ (Take.both (by repeat (first | exact Take.head _ _ | apply Take.tail)) (Take.both (Take.both (by repeat (first | exact Take.head _ _ | apply Take.tail)) (by repeat (first | exact Take.head _ _ | apply Take.tail))) (by repeat (first | exact Take.head _ _ | apply Take.tail)))) rfl ?_
              rintro _ _ ⟨rfl, rfl⟩; refine LW.split2 (LW.split2p (LW.split2p ?_))
              refine LW.assign rfl rfl ?_
              refine LW.nil ?_
              refine NW.then_ ?_
              refine CW.seq ?_
              refine CW.region ?_
              refine LW.move rfl rfl ?_
              refine LW.eql false rfl rfl (beq_eq_false_iff_ne.2 (by omega)) rfl ?_
              refine LW.nil ?_
              refine NW.then_ ?_
              refine CW.cond_false rfl ?_
              refine CW.seq ?_
              refine CW.region ?_
              refine LW.move rfl rfl ?_
              refine LW.move rfl rfl ?_
              refine LW.neq false rfl rfl (bne_eq_false_iff_eq.2 (by omega)) rfl ?_
              refine LW.nil ?_
              refine NW.then_ ?_
              refine CW.cond_false rfl ?_
              refine CW.seq ?_
              refine CW.region ?_
              refine LW.move rfl rfl ?_
              refine LW.eql false rfl rfl (beq_eq_false_iff_ne.2 (by omega)) rfl ?_
              refine LW.nil ?_
              refine NW.then_ ?_
              refine CW.cond_false rfl ?_
              refine CW.skip ?_
              refine NW.block ?_
              refine NW.meet (⟨g, g, d, g.log, false, .slice Aw g.recs.length cpw, vs, ch, .slice Aw g.recs.length cpw, g.area, vs, [], rr⟩) ?j1 ?e1 ?h1
              case j1 => exact ⟨hok, hfi, hfi, ho, hra, har, har, by dsimp only; omega, by dsimp only; omega, fun _ => ⟨hfl, hl, rfl⟩, fun h => (by cases h)⟩
              case e1 => repeat (first | exact Env.Le.nil _ | refine Env.Le.cons rfl ?_)
              case h1 => repeat (first | exact Sub.heap_nil _ | exact Sub.refl _ | refine Sub.heap_cons (Take.none _) ?_ | refine Sub.heap_cons (by repeat (first | exact Take.head _ _ | apply Take.tail)) ?_)
            · refine LW.lss false rfl rfl (decide_eq_false (by omega)) rfl ?_
              refine LW.nil ?_
              refine NW.then_ ?_
              refine CW.cond_false rfl ?_
              refine CW.seq ?_
              refine CW.region ?_
              refine LW.move rfl rfl ?_
              refine LW.lenSlice rfl Tryd.underlying31 rfl ?_
              refine LW.add64 rfl rfl (by omega) (by omega) rfl ?_
              refine LW.move rfl rfl ?_
              refine LW.move rfl rfl ?_
              refine LW.sub64 rfl rfl (by omega) (by omega) rfl ?_
              by_cases hfull : ringN n < g.used + t.length + 2
              · refine LW.gtr true rfl rfl (decide_eq_true (by omega)) rfl ?_
                refine LW.nil ?_
                refine NW.then_ ?_
                refine CW.cond_true rfl ?_
                refine CW.region ?_
                refine LW.assign rfl rfl ?_
                refine LW.nil ?_
                refine NW.then_ ?_
                refine CW.seq ?_
                refine CW.region ?_
                refine LW.move rfl rfl ?_
                refine LW.move rfl rfl ?_
                refine LW.call (wal_Append_no' W B l q p bn bw bl n d hok hfi t (by omega) 5 (.inr ⟨rfl, ⟨by omega, by omega⟩, hfull⟩) [cr b1 5 (t.map u8v)] (some ⟨b1, 0, none⟩) t.length (srcText W B _ _)) Tryd.func25 rfl FactsLawLogAll.fname25 ⟨rfl, rfl, trivial⟩ (Take.both (by repeat (first | exact Take.head _ _ | apply Take.tail)) (Take.both (Take.both (by repeat (first | exact Take.head _ _ | apply Take.tail)) (by repeat (first | exact Take.head _ _ | apply Take.tail))) (by repeat (first | exact Take.head _ _ | apply Take.tail)))) rfl ?_
                rintro _ _ ⟨rfl, rfl⟩; refine LW.split2 (LW.split2p (LW.split2p ?_))
                refine LW.assign rfl rfl ?_
                refine LW.nil ?_
                refine NW.then_ ?_
                refine CW.seq ?_
                refine CW.region ?_
                refine LW.move rfl rfl ?_
                refine LW.eql false rfl rfl (beq_eq_false_iff_ne.2 (by omega)) rfl ?_
                refine LW.nil ?_
                refine NW.then_ ?_
                refine CW.cond_false rfl ?_
                refine CW.seq ?_
                refine CW.region ?_
                refine LW.move rfl rfl ?_
                refine LW.move rfl rfl ?_
                refine LW.neq false rfl rfl (bne_eq_false_iff_eq.2 (by omega)) rfl ?_
                refine LW.nil ?_
                refine NW.then_ ?_
                refine CW.cond_false rfl ?_
                refine CW.seq ?_
                refine CW.region ?_
                refine LW.move rfl rfl ?_
                refine LW.eql false rfl rfl (beq_eq_false_iff_ne.2 (by omega)) rfl ?_
                refine LW.nil ?_
                refine NW.then_ ?_
                refine CW.cond_false rfl ?_
                refine CW.skip ?_
                refine NW.block ?_
                refine NW.meet (⟨g, g, d, g.log, false, .slice Aw g.recs.length cpw, vs, ch, .slice Aw g.recs.length cpw, g.area, vs, [], rr⟩) ?j2 ?e2 ?h2
                case j2 => exact ⟨hok, hfi, hfi, ho, hra, har, har, by dsimp only; omega, by dsimp only; omega, fun _ => ⟨hfl, hl, rfl⟩, fun h => (by cases h)⟩
                case e2 => repeat (first | exact Env.Le.nil _ | refine Env.Le.cons rfl ?_)
                case h2 => repeat (first | exact Sub.heap_nil _ | exact Sub.refl _ | refine Sub.heap_cons (Take.none _) ?_ | refine Sub.heap_cons (by repeat (first | exact Take.head _ _ | apply Take.tail)) ?_)
              · refine LW.gtr false rfl rfl (decide_eq_false (by omega)) rfl ?_
                refine LW.nil ?_
                refine NW.then_ ?_
                refine CW.cond_false rfl ?_
                refine CW.skip ?_
                refine NW.then_ ?_
                refine CW.seq ?_
                refine CW.region ?_
                refine LW.move rfl rfl ?_
                refine LW.move rfl rfl ?_
                refine LW.call (wal_Append_fz W B l q p bn bw bl n d hok hfi (hold_log hfl hn0 hfi hl) (by omega) t ⟨by omega, by omega⟩ (by omega) [cr b1 5 (t.map u8v)] (some ⟨b1, 0, none⟩) t.length (srcText W B _ _)) Tryd.func25 rfl FactsLawLogAll.fname25 ⟨rfl, rfl, trivial⟩ (Take.both (by repeat (first | exact Take.head _ _ | apply Take.tail)) (Take.both (Take.both (by repeat (first | exact Take.head _ _ | apply Take.tail)) (by repeat (first | exact Take.head _ _ | apply Take.tail))) (by repeat (first | exact Take.head _ _ | apply Take.tail)))) rfl ?_
                rintro v3 post3 hR
                rcases hR with ⟨rfl, d3, ho3, hfl3, hl3, hf3, _, rfl⟩ | ⟨rfl, d3, L3, ho3, hd3, hL3, hx3, hf3, _, rfl⟩
                · refine LW.split2 (LW.split2p (LW.split2p ?_))
                  refine LW.assign rfl rfl ?_
                  refine LW.nil ?_
                  refine NW.then_ ?_
                  refine CW.seq ?_
                  refine CW.region ?_
                  refine LW.move rfl rfl ?_
                  refine LW.eql false rfl rfl (beq_eq_false_iff_ne.2 (by omega)) rfl ?_
                  refine LW.nil ?_
                  refine NW.then_ ?_
                  refine CW.cond_false rfl ?_
                  refine CW.seq ?_
                  refine CW.region ?_
                  refine LW.move rfl rfl ?_
                  refine LW.move rfl rfl ?_
                  refine LW.neq false rfl rfl (bne_eq_false_iff_eq.2 (by omega)) rfl ?_
                  refine LW.nil ?_
                  refine NW.then_ ?_
                  refine CW.cond_false rfl ?_
                  refine CW.seq ?_
                  refine CW.region ?_
                  refine LW.move rfl rfl ?_
                  refine LW.eql true rfl rfl (beq_iff_eq.2 (by omega)) rfl ?_
                  refine LW.nil ?_
                  refine NW.then_ ?_
                  refine CW.cond_true rfl ?_
                  refine CW.region ?_
                  refine LW.move rfl rfl ?_
                  refine LW.append (vs) rfl rfl Tryd.underlying36 Tryd.underlying36 (.inr ⟨_, rfl⟩) FactsLawLogAll.info31 rfl (OwnS.nil) (Take.none _) (fun _ => lenOf_slice _ _ _ _) (first_rd (ho.src.rd (by repeat (first | exact Take.head _ _ | apply Take.tail))) (by rw [hra.1]; omega) hAw) (by rw [hra.1]; omega) (hra.one) (by omega) (by omega) rfl ?_
                  intro v7 ch7 ho7
                  refine LW.move rfl rfl ?_
                  refine LW.buildSlice (vs := [_]) ⟨rfl, trivial⟩ rfl (by intro v hv; simp at hv; subst hv; rfl) Tryd.underlying36 FactsLawLogAll.info31 rfl (by decide) (by decide) rfl ?_
                  intro bs119
                  refine LW.append ([.slice (some ⟨b1, 0, none⟩) t.length t.length]) rfl rfl Tryd.underlying36 Tryd.underlying36 (.inr ⟨_, rfl⟩) FactsLawLogAll.info31 rfl (ho7) (by repeat (first | exact Take.head _ _ | apply Take.tail)) (fun _ => lenOf_slice _ _ _ _) (first_rd (RdAt.row (by repeat (first | exact Take.head _ _ | apply Take.tail)) (fun j v hj => by rw [Nat.zero_add]; exact hj)) rfl (fun h => (by cases h))) (rfl) (by intro u hu; simp at hu; subst hu; rfl) (by omega) (by omega) rfl ?_
                  intro v8 ch8 ho8; rw [List.nil_append, Nat.zero_add] at ho8
                  refine LW.move rfl rfl ?_
                  refine LW.move rfl rfl ?_
                  refine LW.lenSlice rfl Tryd.underlying31 rfl ?_
                  refine LW.add64 rfl rfl (by omega) (by omega) rfl ?_
                  refine LW.add ((LogS.used ⟨g.serial + 1, g.area, g.length, g.recs ++ [t]⟩ : Int)) rfl rfl (by rw [hua]; exact wr64 (by omega) (by omega) (by omega)) rfl ?_
                  refine LW.assign rfl rfl ?_
                  refine LW.assign rfl rfl ?_
                  refine LW.nil ?_
                  refine NW.block ?_
                  refine NW.meet (⟨⟨g.serial + 1, g.area, g.length, g.recs ++ [t]⟩, g, d3, LogS.log ⟨g.serial + 1, g.area, g.length, g.recs ++ [t]⟩, false, v8, vs ++ [.slice (some ⟨b1, 0, none⟩) t.length t.length], ch8, .slice Aw g.recs.length cpw, g.area, vs, [], [cr b1 5 (t.map u8v)] ++ rr⟩) ?j3 ?e3 ?h3
                  case j3 => exact ⟨ho3, hf3, hfi, by rw [List.length_append]; exact ho8, (hra.more (fun x hx => List.mem_append_right _ hx)).app ((RecAt.own (OwnB.text b1 t)).more (fun x hx => List.mem_append_left _ hx)), har, har, by dsimp only; omega, by dsimp only; omega, fun _ => ⟨hfl3, hl3, rfl⟩, fun h => (by cases h)⟩
                  case e3 => repeat (first | exact Env.Le.nil _ | refine Env.Le.cons rfl ?_)
                  case h3 => exact Sub.heap_cons (by repeat (first | exact Take.head _ _ | apply Take.tail)) (Sub.heap_cons (by repeat (first | exact Take.head _ _ | apply Take.tail)) (Sub.heap_cons (by repeat (first | exact Take.head _ _ | apply Take.tail)) (Sub.heap_cons (by repeat (first | exact Take.head _ _ | apply Take.tail)) (Sub.heap_cons (by repeat (first | exact Take.head _ _ | apply Take.tail)) (Sub.heap_cons (Take.none _) (Sub.heap_cons (Take.both (by repeat (first | exact Take.head _ _ | apply Take.tail)) (by repeat (first | exact Take.head _ _ | apply Take.tail))) (Sub.heap_nil _)))))))
                · refine LW.split2 (LW.split2p (LW.split2p ?_))
                  refine LW.assign rfl rfl ?_
                  refine LW.nil ?_
                  refine NW.then_ ?_
                  refine CW.seq ?_
                  refine CW.region ?_
                  refine LW.move rfl rfl ?_
                  refine LW.eql true rfl rfl (beq_iff_eq.2 (by omega)) rfl ?_
                  refine LW.nil ?_
                  refine NW.then_ ?_
                  refine CW.cond_true rfl ?_
                  refine CW.seq ?_
                  refine CW.region ?_
                  refine LW.assign rfl rfl ?_
                  refine LW.nil ?_
                  refine NW.then_ ?_
                  refine CW.seq ?_
                  refine CW.region ?_
                  refine LW.move rfl rfl ?_
                  refine LW.eql true rfl rfl (beq_iff_eq.2 (by omega)) rfl ?_
                  refine LW.nil ?_
                  refine NW.then_ ?_
                  refine CW.cond_true rfl ?_
                  refine CW.region ?_
                  refine LW.move rfl rfl ?_
                  refine LW.append (vs) rfl rfl Tryd.underlying36 Tryd.underlying36 (.inr ⟨_, rfl⟩) FactsLawLogAll.info31 rfl (OwnS.nil) (Take.none _) (fun _ => lenOf_slice _ _ _ _) (first_rd (ho.src.rd (by repeat (first | exact Take.head _ _ | apply Take.tail))) (by rw [hra.1]; omega) hAw) (by rw [hra.1]; omega) (hra.one) (by omega) (by omega) rfl ?_
                  intro v7 ch7 ho7
                  refine LW.move rfl rfl ?_
                  refine LW.buildSlice (vs := [_]) ⟨rfl, trivial⟩ rfl (by intro v hv; simp at hv; subst hv; rfl) Tryd.underlying36 FactsLawLogAll.info31 rfl (by decide) (by decide) rfl ?_
                  intro bs109
                  refine LW.append ([.slice (some ⟨b1, 0, none⟩) t.length t.length]) rfl rfl Tryd.underlying36 Tryd.underlying36 (.inr ⟨_, rfl⟩) FactsLawLogAll.info31 rfl (ho7) (by repeat (first | exact Take.head _ _ | apply Take.tail)) (fun _ => lenOf_slice _ _ _ _) (first_rd (RdAt.row (by repeat (first | exact Take.head _ _ | apply Take.tail)) (fun j v hj => by rw [Nat.zero_add]; exact hj)) rfl (fun h => (by cases h))) (rfl) (by intro u hu; simp at hu; subst hu; rfl) (by omega) (by omega) rfl ?_
                  intro v8 ch8 ho8; rw [List.nil_append, Nat.zero_add] at ho8
                  refine LW.assign rfl rfl ?_
                  refine LW.nil ?_
                  refine NW.block ?_
                  refine NW.meet (⟨g, ⟨g.serial + 1, g.area, g.length, g.recs ++ [t]⟩, d3, L3, true, .slice Aw g.recs.length cpw, vs, ch, v8, g.area, vs ++ [.slice (some ⟨b1, 0, none⟩) t.length t.length], ch8, [cr b1 5 (t.map u8v)] ++ rr⟩) ?j4 ?e4 ?h4
                  case j4 => exact ⟨ho3, hfi, hf3, ho, hra.more (fun x hx => List.mem_append_right _ hx), har, har, by dsimp only; omega, by dsimp only; omega, fun h => (by cases h), fun _ => ⟨hx3, (by obtain ⟨A8, cp8, rfl, _, _⟩ := OwnS.val ho8; exact ⟨A8, cp8, by simp, Src.right W B (OwnS.src ho8), (hra.more (fun x hx => List.mem_append_right _ hx)).app ((RecAt.own (OwnB.text b1 t)).more (fun x hx => List.mem_append_left _ hx))⟩), rfl⟩⟩
                  case e4 => repeat (first | exact Env.Le.nil _ | refine Env.Le.cons rfl ?_)
                  case h4 => exact Sub.heap_cons (by repeat (first | exact Take.head _ _ | apply Take.tail)) (Sub.heap_cons (by repeat (first | exact Take.head _ _ | apply Take.tail)) (Sub.heap_cons (by repeat (first | exact Take.head _ _ | apply Take.tail)) (Sub.heap_cons (by repeat (first | exact Take.head _ _ | apply Take.tail)) (Sub.heap_cons (by repeat (first | exact Take.head _ _ | apply Take.tail)) (Sub.heap_cons (by repeat (first | exact Take.head _ _ | apply Take.tail)) (Sub.heap_cons (Take.both (by repeat (first | exact Take.head _ _ | apply Take.tail)) (by repeat (first | exact Take.head _ _ | apply Take.tail))) (Sub.heap_nil _)))))))
          · refine LW.eql false rfl rfl (beq_eq_false_iff_ne.2 (by omega)) rfl ?_
            refine LW.assign rfl rfl ?_
            refine LW.nil ?_
            refine NW.then_ ?_
            refine CW.cond_false rfl ?_
            refine CW.seq ?_
            refine CW.region ?_
            by_cases hk1 : kind = 1
            · refine LW.eql true rfl rfl (beq_iff_eq.2 (by omega)) rfl ?_
              refine LW.assign rfl rfl ?_
              refine LW.nil ?_
              refine NW.then_ ?_
              refine CW.cond_true rfl ?_
              refine CW.seq ?_
              refine CW.region ?_
              refine LW.fieldAddr _ rfl (fun _ => FactsLawLogAll.fa73_1 _ _ _) rfl ?_
              refine LW.load (v := .int .i64 oi) rfl (by repeat (first | exact Take.head _ _ | apply Take.tail)) (rfl) FactsLawLogAll.one3 rfl ?_
              refine LW.rem (a1) rfl rfl (by decide) (ha1) rfl ?_
              refine LW.assign rfl rfl ?_
              refine LW.nil ?_
              refine NW.then_ ?_
              refine CW.seq ?_
              refine CW.region ?_
              refine LW.move rfl rfl ?_
              refine LW.move rfl rfl ?_
              refine LW.move rfl rfl ?_
              refine LW.add64 rfl rfl (by omega) (by omega) rfl ?_
              refine LW.call (wal_Reset_fz W B l q p bn bw bl n d hok hfi (hold_log hfl hn0 hfi hl) (by omega) a1 (a1 + 1) ⟨by omega, by omega⟩ ⟨by omega, by omega⟩) Tryd.func27 rfl FactsLawLogAll.fname27 ⟨rfl, rfl, rfl, trivial⟩ (Take.both (Take.both (by repeat (first | exact Take.head _ _ | apply Take.tail)) (by repeat (first | exact Take.head _ _ | apply Take.tail))) (by repeat (first | exact Take.head _ _ | apply Take.tail))) rfl ?_
              rintro v3 post3 hR
              rcases hR with ⟨rfl, d3, ho3, hfl3, hl3, hf3, rfl⟩ | ⟨rfl, d3, L3, ho3, hd3, hL3, hx3, hf3, rfl⟩
              · refine LW.split2 (LW.split2 ?_)
                refine LW.assign rfl rfl ?_
                refine LW.nil ?_
                refine NW.then_ ?_
                refine CW.seq ?_
                refine CW.region ?_
                refine LW.move rfl rfl ?_
                refine LW.eql false rfl rfl (beq_eq_false_iff_ne.2 (by omega)) rfl ?_
                refine LW.nil ?_
                refine NW.then_ ?_
                refine CW.cond_false rfl ?_
                refine CW.seq ?_
                refine CW.region ?_
                refine LW.move rfl rfl ?_
                refine LW.neq false rfl rfl (bne_eq_false_iff_eq.2 (by omega)) rfl ?_
                refine LW.nil ?_
                refine NW.then_ ?_
                refine CW.cond_false rfl ?_
                refine CW.region ?_
                refine LW.move rfl rfl ?_
                refine LW.assign rfl rfl ?_
                refine LW.assign rfl rfl ?_
                refine LW.assign rfl rfl ?_
                refine LW.nil ?_
                refine NW.block ?_
                refine NW.meet (⟨⟨g.serial + 1, a1, a1 + 1, []⟩, g, d3, LogS.log ⟨g.serial + 1, a1, a1 + 1, []⟩, false, .slice none 0 0, [], [], .slice Aw g.recs.length cpw, g.area, vs, [], []⟩) ?j5 ?e5 ?h5
                case j5 => exact ⟨ho3, hf3, hfi, OwnS.nil, RecsAt.nil, ⟨.inl rfl, ha3, ha2⟩, har, by dsimp only; omega, by dsimp only; omega, fun _ => ⟨hfl3, hl3, rfl⟩, fun h => (by cases h)⟩
                case e5 => repeat (first | exact Env.Le.nil _ | refine Env.Le.cons rfl ?_)
                case h5 => repeat (first | exact Sub.heap_nil _ | exact Sub.refl _ | refine Sub.heap_cons (Take.none _) ?_ | refine Sub.heap_cons (by repeat (first | exact Take.head _ _ | apply Take.tail)) ?_)
              · refine LW.split2 (LW.split2 ?_)
                refine LW.assign rfl rfl ?_
                refine LW.nil ?_
                refine NW.then_ ?_
                refine CW.seq ?_
                refine CW.region ?_
                refine LW.move rfl rfl ?_
                refine LW.eql true rfl rfl (beq_iff_eq.2 (by omega)) rfl ?_
                refine LW.nil ?_
                refine NW.then_ ?_
                refine CW.cond_true rfl ?_
                refine CW.region ?_
                refine LW.move rfl rfl ?_
                refine LW.assign rfl rfl ?_
                refine LW.assign rfl rfl ?_
                refine LW.assign rfl rfl ?_
                refine LW.nil ?_
                refine NW.block ?_
                refine NW.meet (⟨g, ⟨g.serial + 1, a1, a1 + 1, []⟩, d3, L3, true, .slice Aw g.recs.length cpw, vs, ch, .slice none 0 0, a1, [], [], rr⟩) ?j6 ?e6 ?h6
                case j6 => exact ⟨ho3, hfi, hf3, ho, hra, har, ⟨.inl rfl, ha3, ha2⟩, by dsimp only; omega, by dsimp only; omega, fun h => (by cases h), fun _ => ⟨hx3, ⟨none, 0, rfl, Src.nil, ⟨rfl, fun i hi => by simp at hi⟩⟩, rfl⟩⟩
                case e6 => repeat (first | exact Env.Le.nil _ | refine Env.Le.cons rfl ?_)
                case h6 => repeat (first | exact Sub.heap_nil _ | exact Sub.refl _ | refine Sub.heap_cons (Take.none _) ?_ | refine Sub.heap_cons (by repeat (first | exact Take.head _ _ | apply Take.tail)) ?_)
            · refine LW.eql false rfl rfl (beq_eq_false_iff_ne.2 (by omega)) rfl ?_
              refine LW.assign rfl rfl ?_
              refine LW.nil ?_
              refine NW.then_ ?_
              refine CW.cond_false rfl ?_
              refine CW.seq ?_
              refine CW.region ?_
              by_cases hkk2 : kind = 2
              · refine LW.eql true rfl rfl (beq_iff_eq.2 (by omega)) rfl ?_
                refine LW.assign rfl rfl ?_
                refine LW.nil ?_
                refine NW.then_ ?_
                refine CW.cond_true rfl ?_
                refine CW.region ?_
                refine LW.assign rfl rfl ?_
                refine LW.nil ?_
                refine NW.block ?_
                refine NW.meet (⟨g, g, d, g.log, true, .slice Aw g.recs.length cpw, vs, ch, .slice Aw g.recs.length cpw, g.area, vs, [], rr⟩) ?j7 ?e7 ?h7
                case j7 => exact ⟨hok, hfi, hfi, ho, hra, har, har, by dsimp only; omega, by dsimp only; omega, fun h => (by cases h), fun _ => ⟨fun X hX => .inl (hold_log hfl hn0 hfi hl X hX), ⟨Aw, cpw, rfl, Src.left W B ho.src, hra⟩, rfl⟩⟩
                case e7 => repeat (first | exact Env.Le.nil _ | refine Env.Le.cons rfl ?_)
                case h7 => repeat (first | exact Sub.heap_nil _ | exact Sub.refl _ | refine Sub.heap_cons (Take.none _) ?_ | refine Sub.heap_cons (by repeat (first | exact Take.head _ _ | apply Take.tail)) ?_)
              · refine LW.eql false rfl rfl (beq_eq_false_iff_ne.2 (by omega)) rfl ?_
                refine LW.assign rfl rfl ?_
                refine LW.nil ?_
                refine NW.then_ ?_
                refine CW.cond_false rfl ?_
                refine CW.region ?_
                refine LW.move rfl rfl ?_
                refine LW.fieldAddr _ rfl (fun _ => FactsLawLogAll.fa73_1 _ _ _) rfl ?_
                refine LW.load (v := .int .i64 oi) rfl (by repeat (first | exact Take.head _ _ | apply Take.tail)) (rfl) FactsLawLogAll.one3 rfl ?_
                refine LW.rem (oi.tmod 9) rfl rfl (by decide) (rfl) rfl ?_
                refine LW.add (oi.tmod 9 + 9) rfl rfl (by first | rfl | exact wr64 (by omega) (by omega) (by omega)) rfl ?_
                refine LW.rem ((f : Int)) rfl rfl (by decide) (hf) rfl ?_
                refine LW.call (dev_Fuse W B p bn bw bl n d (f : Int)) Tryd.func41 rfl FactsLawLogAll.fname41 ⟨rfl, rfl, trivial⟩ (by repeat (first | exact Take.head _ _ | apply Take.tail)) rfl ?_
                rintro _ _ ⟨rfl, rfl⟩
                refine LW.nil ?_
                refine NW.block ?_
                refine NW.meet (⟨g, g, d.blow (f : Int), g.log, false, .slice Aw g.recs.length cpw, vs, ch, .slice Aw g.recs.length cpw, g.area, vs, [], rr⟩) ?j8 ?e8 ?h8
                case j8 => exact ⟨ok_blow hok f (by omega), hfi, hfi, ho, hra, har, har, by dsimp only; omega, by dsimp only; omega, fun _ => ⟨flat_blow hfl _, hl, rfl⟩, fun h => (by cases h)⟩
                case e8 => repeat (first | exact Env.Le.nil _ | refine Env.Le.cons rfl ?_)
                case h8 => repeat (first | exact Sub.heap_nil _ | exact Sub.refl _ | refine Sub.heap_cons (Take.none _) ?_ | refine Sub.heap_cons (by repeat (first | exact Take.head _ _ | apply Take.tail)) ?_)
        case cut45_2 =>
          clear hok hfl hfi hl hse ho hra har hfit hn0 hAw hcw; rintro ⟨g, g2, d, L, c, v, vs, ch, mv, mo, mvs, mch, rr⟩ ⟨hok, hfi, hfi2, ho, hra, har, har2, hse, hse2, hno, hyes⟩; dsimp only at hok hfi hfi2 ho hra har har2 hse hse2 hno hyes
          try dsimp only
          refine CW.cut (fun st : AllE => [(13, .int .i64 (i : Int)), (12, .int .i64 (st.g.used : Int)), (11, .int .i64 st.g.area), (10, st.v), (9, .int .i64 (ringN n : Int)), (7, .pointer (some ⟨st.l, 0, none⟩)), (6, .pointer (some ⟨st.p, 0, none⟩)), (1, .slice (some a) os.length cp)]) (fun st => [[logR st.l st.q st.p st.g.log], [slC st.q st.p st.g.serial false], devC st.p st.bn st.bw st.bl n st.d, st.ch, st.rr]) (fun st => st.Ok W B n (2 + (i : Int))) ?cut60_1 ?cut60_2
          case cut60_1 =>
            refine CW.seq ?_
            refine CW.region ?_
            cases c
            · obtain ⟨hfl, hlat, rfl⟩ := hno rfl
              refine LW.move rfl rfl ?_
              refine LW.nil ?_
              refine NW.then_ ?_
              refine CW.cond_false rfl ?_
              refine CW.skip ?_
              refine NW.meet (⟨g, d, p, bn, bw, bl, l, q, v, vs, ch, rr⟩) ?j9 ?e9 ?h9
              case j9 => exact ⟨hok, hfl, hfi, hlat, hse, ho, hra, har⟩
              case e9 => repeat (first | exact Env.Le.nil _ | refine Env.Le.cons rfl ?_)
              case h9 => repeat (first | exact Sub.heap_nil _ | exact Sub.refl _ | refine Sub.heap_cons (Take.none _) ?_ | refine Sub.heap_cons (by repeat (first | exact Take.head _ _ | apply Take.tail)) ?_)
            · obtain ⟨hmix, ⟨MA, mcp, rfl, hms, hmr⟩, rfl⟩ := hyes rfl
              obtain ⟨Aw, cpw, rfl, hAw, hcw⟩ := OwnS.val ho
              refine LW.move rfl rfl ?_
              refine LW.nil ?_
              refine NW.then_ ?_
              refine CW.cond_true rfl ?_
              refine CW.seq ?_
              refine CW.region ?_
              refine LW.move rfl rfl ?_
              refine LW.fieldAddr _ rfl (fun _ => FactsLawLogAll.fa73_3 _ _ _) rfl ?_
              refine LW.load (v := .slice kA keep.length kcp) rfl (by repeat (first | exact Take.head _ _ | apply Take.tail)) (rfl) FactsLawLogAll.one35 rfl ?_
              refine LW.call (dev_Crash W B p bn bw bl n d hok [] kA kcp keep hkeep) Tryd.func29 rfl FactsLawLogAll.fname29 ⟨rfl, rfl, trivial⟩ (Take.both (Take.none _) (by repeat (first | exact Take.head _ _ | apply Take.tail))) rfl ?_
              rintro _ _ ⟨cp', cn, cw, cl, rfl, rfl⟩; refine LW.split2 (LW.split2p ?_)
              refine LW.assign rfl rfl ?_
              refine LW.nil ?_
              refine NW.then_ ?_
              refine CW.seq ?_
              refine CW.region ?_
              refine LW.move rfl rfl ?_
              rcases hmix _ (crash_mix hok keep) with hc | hc
              · refine LW.call (wal_Open_ok W B cp' cn cw cl n (d.crash n keep) (hok.crash keep) hfi hc) Tryd.func28 rfl FactsLawLogAll.fname28 ⟨rfl, trivial⟩ (by repeat (first | exact Take.head _ _ | apply Take.tail)) rfl ?_
                rintro _ _ ⟨l5, q5, v5, vs5, ch5, ar5, rfl, ho5, hr5, rfl⟩; obtain ⟨A5, cp5, rfl, hA5, hc5⟩ := OwnS.val ho5; refine LW.split2 (LW.split2p (LW.split3p (LW.split3p ?_)))
                refine LW.move rfl rfl ?_
                refine LW.extract rfl rfl rfl ?_
                refine LW.extract rfl rfl rfl ?_
                refine LW.extract rfl rfl rfl ?_
                refine LW.assign rfl rfl ?_
                refine LW.assign rfl rfl ?_
                refine LW.assign rfl rfl ?_
                refine LW.nil ?_
                refine NW.then_ ?_
                refine CW.seq ?_
                refine CW.seq ?_
                refine CW.region ?_
                refine LW.move rfl rfl ?_
                refine LW.neq false rfl rfl (bne_eq_false_iff_eq.2 (by omega)) rfl ?_
                refine LW.move rfl rfl ?_
                refine LW.on 157 rfl rfl ?_
                refine LW.move rfl rfl ?_
                refine LW.on 157 rfl rfl ?_
                refine LW.ptrNil _ rfl Tryd.underlying23 rfl rfl ?_
                refine LW.pickF rfl rfl rfl ?_
                refine LW.nil ?_
                refine NW.then_ ?_
                refine CW.cond_false rfl ?_
                refine CW.skip ?_
                refine NW.then_ ?_
                refine CW.seq ?_
                refine CW.region ?_
                refine LW.move rfl rfl ?_
                refine LW.call (wal_Area W B l5 q5 cp' g.log) Tryd.func31 rfl FactsLawLogAll.fname31 ⟨rfl, trivial⟩ (by repeat (first | exact Take.head _ _ | apply Take.tail)) rfl ?_
                rintro _ _ ⟨rfl, rfl⟩
                refine LW.move rfl rfl ?_
                refine LW.extract rfl rfl rfl ?_
                refine LW.extract rfl rfl rfl ?_
                refine LW.assign rfl rfl ?_
                refine LW.assign rfl rfl ?_
                refine LW.nil ?_
                refine NW.then_ ?_
                refine CW.seq ?_
                have hcnt : g.recs.length ≤ 1000000000 := by have h1 := hfi.fits; have h2 := recs_count hfi; omega
                have hcnt2 : g2.recs.length ≤ 1000000000 := by have h1 := hfi2.fits; have h2 := recs_count hfi2; omega
                refine CW.region ?_
                refine LW.move rfl rfl ?_
                refine LW.move rfl rfl ?_
                refine LW.call (law_records_eq W B (ch5 ++ (ar5 ++ (ch ++ rr))) A5 Aw cp5 cpw g.recs.length g.recs.length g.recs rfl rfl vs5 vs (Src.left W B ho5.src) (hr5.more (fun x hx => by simp [hx])) (Src.right W B (Src.right W B (Src.left W B ho.src))) (hra.more (fun x hx => by simp [hx])) hcnt) Tryd.func30 rfl FactsLawLogAll.fname30 ⟨rfl, rfl, trivial⟩ (Take.both (by repeat (first | exact Take.head _ _ | apply Take.tail)) (Take.both (by repeat (first | exact Take.head _ _ | apply Take.tail)) (Take.both (by repeat (first | exact Take.head _ _ | apply Take.tail)) (by repeat (first | exact Take.head _ _ | apply Take.tail))))) rfl ?_
                rintro _ _ ⟨rfl, rfl⟩; refine LW.split2 (LW.split2p (LW.split3p ?_))
                refine LW.move rfl rfl ?_
                refine LW.on 169 rfl rfl ?_
                refine LW.move rfl rfl ?_
                refine LW.on 169 rfl rfl ?_
                refine LW.move rfl rfl ?_
                refine LW.on 169 rfl rfl ?_
                refine LW.eql true rfl rfl (beq_iff_eq.2 rfl) rfl ?_
                refine LW.pickT rfl rfl rfl ?_
                refine LW.assign rfl rfl ?_
                refine LW.nil ?_
                refine NW.then_ ?_
                refine CW.cut (fun st : AllE => [(26, .int .i64 st.g.area), (24, st.v), (23, .pointer (some ⟨st.l, 0, none⟩)), (13, .int .i64 (i : Int)), (9, .int .i64 (ringN n : Int)), (6, .pointer (some ⟨st.p, 0, none⟩)), (1, .slice (some a) os.length cp)]) (fun st => [[logR st.l st.q st.p st.g.log], [slC st.q st.p st.g.serial false], devC st.p st.bn st.bw st.bl n st.d, st.ch, st.rr]) (fun st => st.Ok W B n (2 + (i : Int))) ?cut54_1 ?cut54_2
                case cut54_1 =>
                  refine CW.seq ?_
                  refine CW.region ?_
                  refine LW.move rfl rfl ?_
                  refine LW.not (false) rfl (rfl) rfl ?_
                  refine LW.move rfl rfl ?_
                  refine LW.off 176 rfl rfl rfl rfl ?_
                  refine LW.off 176 rfl rfl rfl rfl ?_
                  refine LW.off 176 rfl rfl rfl rfl ?_
                  refine LW.off 176 rfl rfl rfl rfl ?_
                  refine LW.offU 180 rfl rfl rfl ?_
                  refine LW.offU 180 rfl rfl rfl ?_
                  refine LW.offU 180 rfl rfl rfl ?_
                  refine LW.off 176 rfl rfl rfl rfl ?_
                  refine LW.off 176 rfl rfl rfl rfl ?_
                  refine LW.pickF rfl rfl rfl ?_
                  refine LW.move rfl rfl ?_
                  refine LW.on 187 rfl rfl ?_
                  refine LW.move rfl rfl ?_
                  refine LW.on 187 rfl rfl ?_
                  refine LW.move rfl rfl ?_
                  refine LW.on 187 rfl rfl ?_
                  refine LW.add (g.area + 1) rfl rfl (wr64 rfl (by have := har.2; omega) (by have := har.2; omega)) rfl ?_
                  by_cases hln : g.length = g.area + 1
                  · refine LW.on 187 rfl rfl ?_
                    refine LW.neq false rfl rfl (bne_eq_false_iff_eq.2 hln) rfl ?_
                    refine LW.on 187 rfl rfl ?_
                    refine LW.move rfl rfl ?_
                    refine LW.off 192 rfl rfl rfl rfl ?_
                    refine LW.off 192 rfl rfl rfl rfl ?_
                    refine LW.on 187 rfl rfl ?_
                    refine LW.pickF rfl rfl rfl ?_
                    refine LW.pickF rfl rfl rfl ?_
                    refine LW.nil ?_
                    refine NW.then_ ?_
                    refine CW.cond_false rfl ?_
                    refine CW.skip ?_
                    refine NW.meet (⟨g, d.crash n keep, cp', cn, cw, cl, l5, q5, .slice A5 g.recs.length cp5, vs5, ch5, ar5⟩) ?j10 ?e10 ?h10
                    case j10 => exact ⟨hok.crash keep, crash_flat _ _ _, hfi, hc, hse, ho5, hr5, har⟩
                    case e10 => repeat (first | exact Env.Le.nil _ | refine Env.Le.cons rfl ?_)
                    case h10 => repeat (first | exact Sub.heap_nil _ | exact Sub.refl _ | refine Sub.heap_cons (Take.none _) ?_ | refine Sub.heap_cons (by repeat (first | exact Take.head _ _ | apply Take.tail)) ?_)
                  · refine LW.on 187 rfl rfl ?_
                    refine LW.neq true rfl rfl (bne_iff_ne.2 hln) rfl ?_
                    refine LW.on 187 rfl rfl ?_
                    refine LW.move rfl rfl ?_
                    refine LW.on 192 rfl rfl ?_
                    refine LW.move rfl rfl ?_
                    refine LW.on 192 rfl rfl ?_
                    refine LW.neq false rfl rfl (bne_eq_false_iff_eq.2 (har.1.resolve_left hln)) rfl ?_
                    refine LW.on 187 rfl rfl ?_
                    refine LW.pickT rfl rfl rfl ?_
                    refine LW.pickF rfl rfl rfl ?_
                    refine LW.nil ?_
                    refine NW.then_ ?_
                    refine CW.cond_false rfl ?_
                    refine CW.skip ?_
                    refine NW.meet (⟨g, d.crash n keep, cp', cn, cw, cl, l5, q5, .slice A5 g.recs.length cp5, vs5, ch5, ar5⟩) ?j11 ?e11 ?h11
                    case j11 => exact ⟨hok.crash keep, crash_flat _ _ _, hfi, hc, hse, ho5, hr5, har⟩
                    case e11 => repeat (first | exact Env.Le.nil _ | refine Env.Le.cons rfl ?_)
                    case h11 => repeat (first | exact Sub.heap_nil _ | exact Sub.refl _ | refine Sub.heap_cons (Take.none _) ?_ | refine Sub.heap_cons (by repeat (first | exact Take.head _ _ | apply Take.tail)) ?_)
                case cut54_2 =>
                  clear hok hfi hfi2 ho hra har har2 hse hse2 hno hyes; rintro ⟨g, d, p, bn, bw, bl, l, q, v, vs, ch, rr⟩ ⟨hok, hfl, hfi, hl, hse, ho, hra, har⟩; dsimp only at hok hfl hfi hl hse ho hra har; have hfit := hfi.fits
                  try dsimp only
                  refine CW.seq ?_
                  obtain ⟨A5, cp5, rfl, hA5, hc5⟩ := OwnS.val ho
                  refine CW.region ?_
                  refine LW.move rfl rfl ?_
                  refine LW.move rfl rfl ?_
                  refine LW.move rfl rfl ?_
                  refine LW.assign rfl rfl ?_
                  refine LW.assign rfl rfl ?_
                  refine LW.assign rfl rfl ?_
                  refine LW.assign rfl rfl ?_
                  refine LW.nil ?_
                  refine NW.then_ ?_
                  refine CW.seq ?_
                  refine CW.region ?_
                  refine LW.move rfl rfl ?_
                  refine LW.lenSlice rfl Tryd.underlying36 rfl ?_
                  refine LW.move rfl rfl ?_
                  refine LW.nil ?_
                  refine NW.then_ ?_
                  refine CW.block ?_
                  refine CW.loop (fun j : Nat => [(202, .int .i64 (j : Int)), (201, .int .i64 (g.recs.length : Int)), (200, .slice A5 g.recs.length cp5), (13, .int .i64 (i : Int)), (12, .int .i64 ((recsB (g.recs.take j)).length : Int)), (11, .int .i64 g.area), (10, .slice A5 g.recs.length cp5), (9, .int .i64 (ringN n : Int)), (7, .pointer (some ⟨l, 0, none⟩)), (6, .pointer (some ⟨p, 0, none⟩)), (1, .slice (some a) os.length cp)]) (fun _ => [[logR l q p g.log], [slC q p g.serial false], devC p bn bw bl n d, ch, rr]) (fun j => j ≤ g.recs.length) (fun j => g.recs.length - j) 0 ?st56_j ?st56_e ?st56_h ?st56_r
                  case st56_j => exact Nat.zero_le _
                  case st56_e => repeat (first | exact Env.Le.nil _ | refine Env.Le.cons rfl ?_)
                  case st56_h => repeat (first | exact Sub.heap_nil _ | exact Sub.refl _ | refine Sub.heap_cons (Take.none _) ?_ | refine Sub.heap_cons (by repeat (first | exact Take.head _ _ | apply Take.tail)) ?_)
                  case st56_r =>
                    intro j hj
                    try dsimp only
                    refine CW.seq ?_
                    refine CW.region ?_
                    refine LW.lss _ rfl rfl rfl rfl ?_
                    refine LW.nil ?_
                    refine NW.then_ ?_
                    refine CW.seq ?_
                    refine CW.cond rfl (fun hc203 => ?_) (fun hc203 => ?_)
                    · replace hc203 := of_decide_eq_true hc203
                      try dsimp only at hc203
                      have hjn : j < g.recs.length := by omega
                      obtain ⟨Br, qr, hvr, hxr, _, _⟩ := hra.2 j hjn
                      have hgr : vs[j]? = some (.slice Br (g.recs.getD j []).length qr) := by rw [show Value.slice Br (g.recs.getD j []).length qr = vs.getD j undef from hvr.symm]; simp [List.getD, List.getElem?_eq_getElem (show j < vs.length by rw [hra.1]; exact hjn)]
                      obtain ⟨a5, rfl⟩ : ∃ a, A5 = some a := (OwnS.src (W := W) (B := B) ho).some (by rw [hra.1]; omega)
                      have hrl := (hfi.recs _ (List.mem_of_getElem? (show g.recs[j]? = some (g.recs.getD j []) by simp [List.getD, List.getElem?_eq_getElem hjn]))).2
                      have hcnt := recs_count hfi
                      have htk := recsB_take g.recs j
                      have hus : g.used = (recsB g.recs).length := rfl
                      have hsu := recsB_take_succ g.recs j hjn
                      refine CW.skip ?_
                      refine NW.then_ ?_
                      refine CW.seq ?_
                      refine CW.block ?_
                      refine CW.seq ?_
                      refine CW.region ?_
                      refine LW.indexAt rfl rfl Tryd.underlying36 FactsLawLogAll.ixs36 (by omega) (by omega) rfl ?_
                      refine LW.loadRd (v := .slice Br (g.recs.getD j []).length qr) rfl ((OwnS.src ho).rd (by repeat (first | exact Take.head _ _ | apply Take.tail))) (by rw [Int.toNat_natCast, Nat.mul_one]; exact hgr) FactsLawLogAll.one31 rfl ?_
                      refine LW.assign rfl rfl ?_
                      refine LW.nil ?_
                      refine NW.then_ ?_
                      refine CW.region ?_
                      refine LW.move rfl rfl ?_
                      refine LW.move rfl rfl ?_
                      refine LW.lenSlice rfl Tryd.underlying31 rfl ?_
                      refine LW.add64 rfl rfl (by omega) (by omega) rfl ?_
                      refine LW.add (((recsB (g.recs.take (j + 1))).length : Int)) rfl rfl (by rw [hsu]; exact wr64 (by omega) (by omega) (by omega)) rfl ?_
                      refine LW.assign rfl rfl ?_
                      refine LW.nil ?_
                      refine NW.block ?_
                      refine NW.then_ ?_
                      refine CW.region ?_
                      refine LW.add ((j + 1 : Int)) rfl rfl (by first | rfl | exact wr64 (by omega) (by omega) (by omega)) rfl ?_
                      refine LW.move rfl rfl ?_
                      refine LW.nil ?_
                      refine NW.meet (j + 1) ?j12 ?e12 ?h12
                      case j12 => exact ⟨hjn, by omega⟩
                      case e12 => repeat (first | exact Env.Le.nil _ | refine Env.Le.cons rfl ?_)
                      case h12 => repeat (first | exact Sub.heap_nil _ | exact Sub.refl _ | refine Sub.heap_cons (Take.none _) ?_ | refine Sub.heap_cons (by repeat (first | exact Take.head _ _ | apply Take.tail)) ?_)
                    · replace hc203 := of_decide_eq_false hc203
                      try dsimp only at hc203
                      obtain rfl : j = g.recs.length := by omega
                      rw [show (recsB (g.recs.take g.recs.length)).length = g.used by rw [List.take_length]; rfl]
                      refine CW.exit ?_
                      refine NW.then_exit ?_
                      refine NW.then_exit ?_
                      refine NW.block_exit ?_
                      refine NW.meet (⟨g, d, p, bn, bw, bl, l, q, .slice A5 g.recs.length cp5, vs, ch, rr⟩) ?j13 ?e13 ?h13
                      case j13 => exact ⟨hok, hfl, hfi, hl, hse, ho, hra, har⟩
                      case e13 => repeat (first | exact Env.Le.nil _ | refine Env.Le.cons rfl ?_)
                      case h13 => repeat (first | exact Sub.heap_nil _ | exact Sub.refl _ | refine Sub.heap_cons (Take.none _) ?_ | refine Sub.heap_cons (by repeat (first | exact Take.head _ _ | apply Take.tail)) ?_)
              · refine LW.call (wal_Open_ok W B cp' cn cw cl n (d.crash n keep) (hok.crash keep) hfi2 hc) Tryd.func28 rfl FactsLawLogAll.fname28 ⟨rfl, trivial⟩ (by repeat (first | exact Take.head _ _ | apply Take.tail)) rfl ?_
                rintro _ _ ⟨l5, q5, v5, vs5, ch5, ar5, rfl, ho5, hr5, rfl⟩; obtain ⟨A5, cp5, rfl, hA5, hc5⟩ := OwnS.val ho5; refine LW.split2 (LW.split2p (LW.split3p (LW.split3p ?_)))
                refine LW.move rfl rfl ?_
                refine LW.extract rfl rfl rfl ?_
                refine LW.extract rfl rfl rfl ?_
                refine LW.extract rfl rfl rfl ?_
                refine LW.assign rfl rfl ?_
                refine LW.assign rfl rfl ?_
                refine LW.assign rfl rfl ?_
                refine LW.nil ?_
                refine NW.then_ ?_
                refine CW.seq ?_
                refine CW.seq ?_
                refine CW.region ?_
                refine LW.move rfl rfl ?_
                refine LW.neq false rfl rfl (bne_eq_false_iff_eq.2 (by omega)) rfl ?_
                refine LW.move rfl rfl ?_
                refine LW.on 157 rfl rfl ?_
                refine LW.move rfl rfl ?_
                refine LW.on 157 rfl rfl ?_
                refine LW.ptrNil _ rfl Tryd.underlying23 rfl rfl ?_
                refine LW.pickF rfl rfl rfl ?_
                refine LW.nil ?_
                refine NW.then_ ?_
                refine CW.cond_false rfl ?_
                refine CW.skip ?_
                refine NW.then_ ?_
                refine CW.seq ?_
                refine CW.region ?_
                refine LW.move rfl rfl ?_
                refine LW.call (wal_Area W B l5 q5 cp' g2.log) Tryd.func31 rfl FactsLawLogAll.fname31 ⟨rfl, trivial⟩ (by repeat (first | exact Take.head _ _ | apply Take.tail)) rfl ?_
                rintro _ _ ⟨rfl, rfl⟩
                refine LW.move rfl rfl ?_
                refine LW.extract rfl rfl rfl ?_
                refine LW.extract rfl rfl rfl ?_
                refine LW.assign rfl rfl ?_
                refine LW.assign rfl rfl ?_
                refine LW.nil ?_
                refine NW.then_ ?_
                refine CW.seq ?_
                have hcnt : g.recs.length ≤ 1000000000 := by have h1 := hfi.fits; have h2 := recs_count hfi; omega
                have hcnt2 : g2.recs.length ≤ 1000000000 := by have h1 := hfi2.fits; have h2 := recs_count hfi2; omega
                refine CW.region ?_
                refine LW.move rfl rfl ?_
                by_cases hab : g2.recs = g.recs
                · refine LW.move rfl rfl ?_
                  refine LW.call (law_records_eq W B (ch5 ++ (ar5 ++ (ch ++ rr))) A5 Aw cp5 cpw g2.recs.length g.recs.length g2.recs rfl (by rw [hab]) vs5 vs (Src.left W B ho5.src) (hr5.more (fun x hx => by simp [hx])) (Src.right W B (Src.right W B (Src.left W B ho.src))) (by rw [hab]; exact hra.more (fun x hx => by simp [hx])) hcnt2) Tryd.func30 rfl FactsLawLogAll.fname30 ⟨rfl, rfl, trivial⟩ (Take.both (by repeat (first | exact Take.head _ _ | apply Take.tail)) (Take.both (by repeat (first | exact Take.head _ _ | apply Take.tail)) (Take.both (by repeat (first | exact Take.head _ _ | apply Take.tail)) (by repeat (first | exact Take.head _ _ | apply Take.tail))))) rfl ?_
                  rintro _ _ ⟨rfl, rfl⟩; refine LW.split2 (LW.split2p (LW.split3p ?_))
                  refine LW.move rfl rfl ?_
                  refine LW.on 169 rfl rfl ?_
                  refine LW.move rfl rfl ?_
                  refine LW.on 169 rfl rfl ?_
                  refine LW.move rfl rfl ?_
                  by_cases hga : g2.area = g.area
                  · refine LW.on 169 rfl rfl ?_
                    refine LW.eql true rfl rfl (beq_iff_eq.2 hga) rfl ?_
                    refine LW.pickT rfl rfl rfl ?_
                    refine LW.assign rfl rfl ?_
                    refine LW.nil ?_
                    refine NW.then_ ?_
                    refine CW.cut (fun st : AllE => [(26, .int .i64 st.g.area), (24, st.v), (23, .pointer (some ⟨st.l, 0, none⟩)), (13, .int .i64 (i : Int)), (9, .int .i64 (ringN n : Int)), (6, .pointer (some ⟨st.p, 0, none⟩)), (1, .slice (some a) os.length cp)]) (fun st => [[logR st.l st.q st.p st.g.log], [slC st.q st.p st.g.serial false], devC st.p st.bn st.bw st.bl n st.d, st.ch, st.rr]) (fun st => st.Ok W B n (2 + (i : Int))) ?cut54_1 ?cut54_2
                    case cut54_1 =>
                      refine CW.seq ?_
                      refine CW.region ?_
                      refine LW.move rfl rfl ?_
                      refine LW.not (false) rfl (rfl) rfl ?_
                      refine LW.move rfl rfl ?_
                      refine LW.off 176 rfl rfl rfl rfl ?_
                      refine LW.off 176 rfl rfl rfl rfl ?_
                      refine LW.off 176 rfl rfl rfl rfl ?_
                      refine LW.off 176 rfl rfl rfl rfl ?_
                      refine LW.offU 180 rfl rfl rfl ?_
                      refine LW.offU 180 rfl rfl rfl ?_
                      refine LW.offU 180 rfl rfl rfl ?_
                      refine LW.off 176 rfl rfl rfl rfl ?_
                      refine LW.off 176 rfl rfl rfl rfl ?_
                      refine LW.pickF rfl rfl rfl ?_
                      refine LW.move rfl rfl ?_
                      refine LW.on 187 rfl rfl ?_
                      refine LW.move rfl rfl ?_
                      refine LW.on 187 rfl rfl ?_
                      refine LW.move rfl rfl ?_
                      refine LW.on 187 rfl rfl ?_
                      refine LW.add (g2.area + 1) rfl rfl (wr64 rfl (by have := har2.2; omega) (by have := har2.2; omega)) rfl ?_
                      by_cases hln : g2.length = g2.area + 1
                      · refine LW.on 187 rfl rfl ?_
                        refine LW.neq false rfl rfl (bne_eq_false_iff_eq.2 hln) rfl ?_
                        refine LW.on 187 rfl rfl ?_
                        refine LW.move rfl rfl ?_
                        refine LW.off 192 rfl rfl rfl rfl ?_
                        refine LW.off 192 rfl rfl rfl rfl ?_
                        refine LW.on 187 rfl rfl ?_
                        refine LW.pickF rfl rfl rfl ?_
                        refine LW.pickF rfl rfl rfl ?_
                        refine LW.nil ?_
                        refine NW.then_ ?_
                        refine CW.cond_false rfl ?_
                        refine CW.skip ?_
                        refine NW.meet (⟨g2, d.crash n keep, cp', cn, cw, cl, l5, q5, .slice A5 g2.recs.length cp5, vs5, ch5, ar5⟩) ?j14 ?e14 ?h14
                        case j14 => exact ⟨hok.crash keep, crash_flat _ _ _, hfi2, hc, hse2, ho5, hr5, har2⟩
                        case e14 => repeat (first | exact Env.Le.nil _ | refine Env.Le.cons rfl ?_)
                        case h14 => repeat (first | exact Sub.heap_nil _ | exact Sub.refl _ | refine Sub.heap_cons (Take.none _) ?_ | refine Sub.heap_cons (by repeat (first | exact Take.head _ _ | apply Take.tail)) ?_)
                      · refine LW.on 187 rfl rfl ?_
                        refine LW.neq true rfl rfl (bne_iff_ne.2 hln) rfl ?_
                        refine LW.on 187 rfl rfl ?_
                        refine LW.move rfl rfl ?_
                        refine LW.on 192 rfl rfl ?_
                        refine LW.move rfl rfl ?_
                        refine LW.on 192 rfl rfl ?_
                        refine LW.neq false rfl rfl (bne_eq_false_iff_eq.2 (har2.1.resolve_left hln)) rfl ?_
                        refine LW.on 187 rfl rfl ?_
                        refine LW.pickT rfl rfl rfl ?_
                        refine LW.pickF rfl rfl rfl ?_
                        refine LW.nil ?_
                        refine NW.then_ ?_
                        refine CW.cond_false rfl ?_
                        refine CW.skip ?_
                        refine NW.meet (⟨g2, d.crash n keep, cp', cn, cw, cl, l5, q5, .slice A5 g2.recs.length cp5, vs5, ch5, ar5⟩) ?j15 ?e15 ?h15
                        case j15 => exact ⟨hok.crash keep, crash_flat _ _ _, hfi2, hc, hse2, ho5, hr5, har2⟩
                        case e15 => repeat (first | exact Env.Le.nil _ | refine Env.Le.cons rfl ?_)
                        case h15 => repeat (first | exact Sub.heap_nil _ | exact Sub.refl _ | refine Sub.heap_cons (Take.none _) ?_ | refine Sub.heap_cons (by repeat (first | exact Take.head _ _ | apply Take.tail)) ?_)
                    case cut54_2 =>
                      clear hok hfi hfi2 ho hra har har2 hse hse2 hno hyes; rintro ⟨g, d, p, bn, bw, bl, l, q, v, vs, ch, rr⟩ ⟨hok, hfl, hfi, hl, hse, ho, hra, har⟩; dsimp only at hok hfl hfi hl hse ho hra har; have hfit := hfi.fits
                      try dsimp only
                      refine CW.seq ?_
                      obtain ⟨A5, cp5, rfl, hA5, hc5⟩ := OwnS.val ho
                      refine CW.region ?_
                      refine LW.move rfl rfl ?_
                      refine LW.move rfl rfl ?_
                      refine LW.move rfl rfl ?_
                      refine LW.assign rfl rfl ?_
                      refine LW.assign rfl rfl ?_
                      refine LW.assign rfl rfl ?_
                      refine LW.assign rfl rfl ?_
                      refine LW.nil ?_
                      refine NW.then_ ?_
                      refine CW.seq ?_
                      refine CW.region ?_
                      refine LW.move rfl rfl ?_
                      refine LW.lenSlice rfl Tryd.underlying36 rfl ?_
                      refine LW.move rfl rfl ?_
                      refine LW.nil ?_
                      refine NW.then_ ?_
                      refine CW.block ?_
                      refine CW.loop (fun j : Nat => [(202, .int .i64 (j : Int)), (201, .int .i64 (g.recs.length : Int)), (200, .slice A5 g.recs.length cp5), (13, .int .i64 (i : Int)), (12, .int .i64 ((recsB (g.recs.take j)).length : Int)), (11, .int .i64 g.area), (10, .slice A5 g.recs.length cp5), (9, .int .i64 (ringN n : Int)), (7, .pointer (some ⟨l, 0, none⟩)), (6, .pointer (some ⟨p, 0, none⟩)), (1, .slice (some a) os.length cp)]) (fun _ => [[logR l q p g.log], [slC q p g.serial false], devC p bn bw bl n d, ch, rr]) (fun j => j ≤ g.recs.length) (fun j => g.recs.length - j) 0 ?st56_j ?st56_e ?st56_h ?st56_r
                      case st56_j => exact Nat.zero_le _
                      case st56_e => repeat (first | exact Env.Le.nil _ | refine Env.Le.cons rfl ?_)
                      case st56_h => repeat (first | exact Sub.heap_nil _ | exact Sub.refl _ | refine Sub.heap_cons (Take.none _) ?_ | refine Sub.heap_cons (by repeat (first | exact Take.head _ _ | apply Take.tail)) ?_)
                      case st56_r =>
                        intro j hj
                        try dsimp only
                        refine CW.seq ?_
                        refine CW.region ?_
                        refine LW.lss _ rfl rfl rfl rfl ?_
                        refine LW.nil ?_
                        refine NW.then_ ?_
                        refine CW.seq ?_
                        refine CW.cond rfl (fun hc203 => ?_) (fun hc203 => ?_)
                        · replace hc203 := of_decide_eq_true hc203
                          try dsimp only at hc203
                          have hjn : j < g.recs.length := by omega
                          obtain ⟨Br, qr, hvr, hxr, _, _⟩ := hra.2 j hjn
                          have hgr : vs[j]? = some (.slice Br (g.recs.getD j []).length qr) := by rw [show Value.slice Br (g.recs.getD j []).length qr = vs.getD j undef from hvr.symm]; simp [List.getD, List.getElem?_eq_getElem (show j < vs.length by rw [hra.1]; exact hjn)]
                          obtain ⟨a5, rfl⟩ : ∃ a, A5 = some a := (OwnS.src (W := W) (B := B) ho).some (by rw [hra.1]; omega)
                          have hrl := (hfi.recs _ (List.mem_of_getElem? (show g.recs[j]? = some (g.recs.getD j []) by simp [List.getD, List.getElem?_eq_getElem hjn]))).2
                          have hcnt := recs_count hfi
                          have htk := recsB_take g.recs j
                          have hus : g.used = (recsB g.recs).length := rfl
                          have hsu := recsB_take_succ g.recs j hjn
                          refine CW.skip ?_
                          refine NW.then_ ?_
                          refine CW.seq ?_
                          refine CW.block ?_
                          refine CW.seq ?_
                          refine CW.region ?_
                          refine LW.indexAt rfl rfl Tryd.underlying36 FactsLawLogAll.ixs36 (by omega) (by omega) rfl ?_
                          refine LW.loadRd (v := .slice Br (g.recs.getD j []).length qr) rfl ((OwnS.src ho).rd (by repeat (first | exact Take.head _ _ | apply Take.tail))) (by rw [Int.toNat_natCast, Nat.mul_one]; exact hgr) FactsLawLogAll.one31 rfl ?_
                          refine LW.assign rfl rfl ?_
                          refine LW.nil ?_
                          refine NW.then_ ?_
                          refine CW.region ?_
                          refine LW.move rfl rfl ?_
                          refine LW.move rfl rfl ?_
                          refine LW.lenSlice rfl Tryd.underlying31 rfl ?_
                          refine LW.add64 rfl rfl (by omega) (by omega) rfl ?_
                          refine LW.add (((recsB (g.recs.take (j + 1))).length : Int)) rfl rfl (by rw [hsu]; exact wr64 (by omega) (by omega) (by omega)) rfl ?_
                          refine LW.assign rfl rfl ?_
                          refine LW.nil ?_
                          refine NW.block ?_
                          refine NW.then_ ?_
                          refine CW.region ?_
                          refine LW.add ((j + 1 : Int)) rfl rfl (by first | rfl | exact wr64 (by omega) (by omega) (by omega)) rfl ?_
                          refine LW.move rfl rfl ?_
                          refine LW.nil ?_
                          refine NW.meet (j + 1) ?j16 ?e16 ?h16
                          case j16 => exact ⟨hjn, by omega⟩
                          case e16 => repeat (first | exact Env.Le.nil _ | refine Env.Le.cons rfl ?_)
                          case h16 => repeat (first | exact Sub.heap_nil _ | exact Sub.refl _ | refine Sub.heap_cons (Take.none _) ?_ | refine Sub.heap_cons (by repeat (first | exact Take.head _ _ | apply Take.tail)) ?_)
                        · replace hc203 := of_decide_eq_false hc203
                          try dsimp only at hc203
                          obtain rfl : j = g.recs.length := by omega
                          rw [show (recsB (g.recs.take g.recs.length)).length = g.used by rw [List.take_length]; rfl]
                          refine CW.exit ?_
                          refine NW.then_exit ?_
                          refine NW.then_exit ?_
                          refine NW.block_exit ?_
                          refine NW.meet (⟨g, d, p, bn, bw, bl, l, q, .slice A5 g.recs.length cp5, vs, ch, rr⟩) ?j17 ?e17 ?h17
                          case j17 => exact ⟨hok, hfl, hfi, hl, hse, ho, hra, har⟩
                          case e17 => repeat (first | exact Env.Le.nil _ | refine Env.Le.cons rfl ?_)
                          case h17 => repeat (first | exact Sub.heap_nil _ | exact Sub.refl _ | refine Sub.heap_cons (Take.none _) ?_ | refine Sub.heap_cons (by repeat (first | exact Take.head _ _ | apply Take.tail)) ?_)
                  · refine LW.on 169 rfl rfl ?_
                    refine LW.eql false rfl rfl (beq_eq_false_iff_ne.2 hga) rfl ?_
                    refine LW.pickT rfl rfl rfl ?_
                    refine LW.assign rfl rfl ?_
                    refine LW.nil ?_
                    refine NW.then_ ?_
                    refine CW.cut (fun st : AllE => [(26, .int .i64 st.g.area), (24, st.v), (23, .pointer (some ⟨st.l, 0, none⟩)), (13, .int .i64 (i : Int)), (9, .int .i64 (ringN n : Int)), (6, .pointer (some ⟨st.p, 0, none⟩)), (1, .slice (some a) os.length cp)]) (fun st => [[logR st.l st.q st.p st.g.log], [slC st.q st.p st.g.serial false], devC st.p st.bn st.bw st.bl n st.d, st.ch, st.rr]) (fun st => st.Ok W B n (2 + (i : Int))) ?cut54_1 ?cut54_2
                    case cut54_1 =>
                      refine CW.seq ?_
                      refine CW.region ?_
                      refine LW.move rfl rfl ?_
                      refine LW.not (true) rfl (rfl) rfl ?_
                      refine LW.move rfl rfl ?_
                      refine LW.on 176 rfl rfl ?_
                      refine LW.move rfl rfl ?_
                      refine LW.on 176 rfl rfl ?_
                      refine LW.move rfl rfl ?_
                      refine LW.on 176 rfl rfl ?_
                      refine LW.call (law_records_eq W B (ch5 ++ (ar5 ++ ((ch ++ mch) ++ rr))) A5 MA cp5 mcp g2.recs.length g2.recs.length g2.recs rfl rfl vs5 mvs (Src.left W B ho5.src) (hr5.more (fun x hx => by simp [hx])) (Src.right W B (Src.right W B (Src.left W B hms))) (hmr.more (fun x hx => by simp [hx])) hcnt2) Tryd.func30 rfl FactsLawLogAll.fname30 ⟨rfl, rfl, trivial⟩ (Take.both (by repeat (first | exact Take.head _ _ | apply Take.tail)) (Take.both (by repeat (first | exact Take.head _ _ | apply Take.tail)) (Take.both (Take.both (by repeat (first | exact Take.head _ _ | apply Take.tail)) (by repeat (first | exact Take.head _ _ | apply Take.tail))) (by repeat (first | exact Take.head _ _ | apply Take.tail))))) rfl ?_
                      rintro _ _ ⟨rfl, rfl⟩; refine LW.split2 (LW.split2p ?_)
                      refine LW.on 176 rfl rfl ?_
                      refine LW.move rfl rfl ?_
                      refine LW.on 180 rfl rfl ?_
                      refine LW.move rfl rfl ?_
                      refine LW.on 180 rfl rfl ?_
                      refine LW.move rfl rfl ?_
                      refine LW.on 180 rfl rfl ?_
                      refine LW.eql true rfl rfl (beq_iff_eq.2 rfl) rfl ?_
                      refine LW.on 176 rfl rfl ?_
                      refine LW.pickT rfl rfl rfl ?_
                      refine LW.on 176 rfl rfl ?_
                      refine LW.not (false) rfl (rfl) rfl ?_
                      refine LW.pickT rfl rfl rfl ?_
                      refine LW.move rfl rfl ?_
                      refine LW.on 187 rfl rfl ?_
                      refine LW.move rfl rfl ?_
                      refine LW.on 187 rfl rfl ?_
                      refine LW.move rfl rfl ?_
                      refine LW.on 187 rfl rfl ?_
                      refine LW.add (g2.area + 1) rfl rfl (wr64 rfl (by have := har2.2; omega) (by have := har2.2; omega)) rfl ?_
                      by_cases hln : g2.length = g2.area + 1
                      · refine LW.on 187 rfl rfl ?_
                        refine LW.neq false rfl rfl (bne_eq_false_iff_eq.2 hln) rfl ?_
                        refine LW.on 187 rfl rfl ?_
                        refine LW.move rfl rfl ?_
                        refine LW.off 192 rfl rfl rfl rfl ?_
                        refine LW.off 192 rfl rfl rfl rfl ?_
                        refine LW.on 187 rfl rfl ?_
                        refine LW.pickF rfl rfl rfl ?_
                        refine LW.pickF rfl rfl rfl ?_
                        refine LW.nil ?_
                        refine NW.then_ ?_
                        refine CW.cond_false rfl ?_
                        refine CW.skip ?_
                        refine NW.meet (⟨g2, d.crash n keep, cp', cn, cw, cl, l5, q5, .slice A5 g2.recs.length cp5, vs5, ch5, ar5⟩) ?j18 ?e18 ?h18
                        case j18 => exact ⟨hok.crash keep, crash_flat _ _ _, hfi2, hc, hse2, ho5, hr5, har2⟩
                        case e18 => repeat (first | exact Env.Le.nil _ | refine Env.Le.cons rfl ?_)
                        case h18 => repeat (first | exact Sub.heap_nil _ | exact Sub.refl _ | refine Sub.heap_cons (Take.none _) ?_ | refine Sub.heap_cons (by repeat (first | exact Take.head _ _ | apply Take.tail)) ?_)
                      · refine LW.on 187 rfl rfl ?_
                        refine LW.neq true rfl rfl (bne_iff_ne.2 hln) rfl ?_
                        refine LW.on 187 rfl rfl ?_
                        refine LW.move rfl rfl ?_
                        refine LW.on 192 rfl rfl ?_
                        refine LW.move rfl rfl ?_
                        refine LW.on 192 rfl rfl ?_
                        refine LW.neq false rfl rfl (bne_eq_false_iff_eq.2 (har2.1.resolve_left hln)) rfl ?_
                        refine LW.on 187 rfl rfl ?_
                        refine LW.pickT rfl rfl rfl ?_
                        refine LW.pickF rfl rfl rfl ?_
                        refine LW.nil ?_
                        refine NW.then_ ?_
                        refine CW.cond_false rfl ?_
                        refine CW.skip ?_
                        refine NW.meet (⟨g2, d.crash n keep, cp', cn, cw, cl, l5, q5, .slice A5 g2.recs.length cp5, vs5, ch5, ar5⟩) ?j19 ?e19 ?h19
                        case j19 => exact ⟨hok.crash keep, crash_flat _ _ _, hfi2, hc, hse2, ho5, hr5, har2⟩
                        case e19 => repeat (first | exact Env.Le.nil _ | refine Env.Le.cons rfl ?_)
                        case h19 => repeat (first | exact Sub.heap_nil _ | exact Sub.refl _ | refine Sub.heap_cons (Take.none _) ?_ | refine Sub.heap_cons (by repeat (first | exact Take.head _ _ | apply Take.tail)) ?_)
                    case cut54_2 =>
                      clear hok hfi hfi2 ho hra har har2 hse hse2 hno hyes; rintro ⟨g, d, p, bn, bw, bl, l, q, v, vs, ch, rr⟩ ⟨hok, hfl, hfi, hl, hse, ho, hra, har⟩; dsimp only at hok hfl hfi hl hse ho hra har; have hfit := hfi.fits
                      try dsimp only
                      refine CW.seq ?_
                      obtain ⟨A5, cp5, rfl, hA5, hc5⟩ := OwnS.val ho
                      refine CW.region ?_
                      refine LW.move rfl rfl ?_
                      refine LW.move rfl rfl ?_
                      refine LW.move rfl rfl ?_
                      refine LW.assign rfl rfl ?_
                      refine LW.assign rfl rfl ?_
                      refine LW.assign rfl rfl ?_
                      refine LW.assign rfl rfl ?_
                      refine LW.nil ?_
                      refine NW.then_ ?_
                      refine CW.seq ?_
                      refine CW.region ?_
                      refine LW.move rfl rfl ?_
                      refine LW.lenSlice rfl Tryd.underlying36 rfl ?_
                      refine LW.move rfl rfl ?_
                      refine LW.nil ?_
                      refine NW.then_ ?_
                      refine CW.block ?_
                      refine CW.loop (fun j : Nat => [(202, .int .i64 (j : Int)), (201, .int .i64 (g.recs.length : Int)), (200, .slice A5 g.recs.length cp5), (13, .int .i64 (i : Int)), (12, .int .i64 ((recsB (g.recs.take j)).length : Int)), (11, .int .i64 g.area), (10, .slice A5 g.recs.length cp5), (9, .int .i64 (ringN n : Int)), (7, .pointer (some ⟨l, 0, none⟩)), (6, .pointer (some ⟨p, 0, none⟩)), (1, .slice (some a) os.length cp)]) (fun _ => [[logR l q p g.log], [slC q p g.serial false], devC p bn bw bl n d, ch, rr]) (fun j => j ≤ g.recs.length) (fun j => g.recs.length - j) 0 ?st56_j ?st56_e ?st56_h ?st56_r
                      case st56_j => exact Nat.zero_le _
                      case st56_e => repeat (first | exact Env.Le.nil _ | refine Env.Le.cons rfl ?_)
                      case st56_h => repeat (first | exact Sub.heap_nil _ | exact Sub.refl _ | refine Sub.heap_cons (Take.none _) ?_ | refine Sub.heap_cons (by repeat (first | exact Take.head _ _ | apply Take.tail)) ?_)
                      case st56_r =>
                        intro j hj
                        try dsimp only
                        refine CW.seq ?_
                        refine CW.region ?_
                        refine LW.lss _ rfl rfl rfl rfl ?_
                        refine LW.nil ?_
                        refine NW.then_ ?_
                        refine CW.seq ?_
                        refine CW.cond rfl (fun hc203 => ?_) (fun hc203 => ?_)
                        · replace hc203 := of_decide_eq_true hc203
                          try dsimp only at hc203
                          have hjn : j < g.recs.length := by omega
                          obtain ⟨Br, qr, hvr, hxr, _, _⟩ := hra.2 j hjn
                          have hgr : vs[j]? = some (.slice Br (g.recs.getD j []).length qr) := by rw [show Value.slice Br (g.recs.getD j []).length qr = vs.getD j undef from hvr.symm]; simp [List.getD, List.getElem?_eq_getElem (show j < vs.length by rw [hra.1]; exact hjn)]
                          obtain ⟨a5, rfl⟩ : ∃ a, A5 = some a := (OwnS.src (W := W) (B := B) ho).some (by rw [hra.1]; omega)
                          have hrl := (hfi.recs _ (List.mem_of_getElem? (show g.recs[j]? = some (g.recs.getD j []) by simp [List.getD, List.getElem?_eq_getElem hjn]))).2
                          have hcnt := recs_count hfi
                          have htk := recsB_take g.recs j
                          have hus : g.used = (recsB g.recs).length := rfl
                          have hsu := recsB_take_succ g.recs j hjn
                          refine CW.skip ?_
                          refine NW.then_ ?_
                          refine CW.seq ?_
                          refine CW.block ?_
                          refine CW.seq ?_
                          refine CW.region ?_
                          refine LW.indexAt rfl rfl Tryd.underlying36 FactsLawLogAll.ixs36 (by omega) (by omega) rfl ?_
                          refine LW.loadRd (v := .slice Br (g.recs.getD j []).length qr) rfl ((OwnS.src ho).rd (by repeat (first | exact Take.head _ _ | apply Take.tail))) (by rw [Int.toNat_natCast, Nat.mul_one]; exact hgr) FactsLawLogAll.one31 rfl ?_
                          refine LW.assign rfl rfl ?_
                          refine LW.nil ?_
                          refine NW.then_ ?_
                          refine CW.region ?_
                          refine LW.move rfl rfl ?_
                          refine LW.move rfl rfl ?_
                          refine LW.lenSlice rfl Tryd.underlying31 rfl ?_
                          refine LW.add64 rfl rfl (by omega) (by omega) rfl ?_
                          refine LW.add (((recsB (g.recs.take (j + 1))).length : Int)) rfl rfl (by rw [hsu]; exact wr64 (by omega) (by omega) (by omega)) rfl ?_
                          refine LW.assign rfl rfl ?_
                          refine LW.nil ?_
                          refine NW.block ?_
                          refine NW.then_ ?_
                          refine CW.region ?_
                          refine LW.add ((j + 1 : Int)) rfl rfl (by first | rfl | exact wr64 (by omega) (by omega) (by omega)) rfl ?_
                          refine LW.move rfl rfl ?_
                          refine LW.nil ?_
                          refine NW.meet (j + 1) ?j20 ?e20 ?h20
                          case j20 => exact ⟨hjn, by omega⟩
                          case e20 => repeat (first | exact Env.Le.nil _ | refine Env.Le.cons rfl ?_)
                          case h20 => repeat (first | exact Sub.heap_nil _ | exact Sub.refl _ | refine Sub.heap_cons (Take.none _) ?_ | refine Sub.heap_cons (by repeat (first | exact Take.head _ _ | apply Take.tail)) ?_)
                        · replace hc203 := of_decide_eq_false hc203
                          try dsimp only at hc203
                          obtain rfl : j = g.recs.length := by omega
                          rw [show (recsB (g.recs.take g.recs.length)).length = g.used by rw [List.take_length]; rfl]
                          refine CW.exit ?_
                          refine NW.then_exit ?_
                          refine NW.then_exit ?_
                          refine NW.block_exit ?_
                          refine NW.meet (⟨g, d, p, bn, bw, bl, l, q, .slice A5 g.recs.length cp5, vs, ch, rr⟩) ?j21 ?e21 ?h21
                          case j21 => exact ⟨hok, hfl, hfi, hl, hse, ho, hra, har⟩
                          case e21 => repeat (first | exact Env.Le.nil _ | refine Env.Le.cons rfl ?_)
                          case h21 => repeat (first | exact Sub.heap_nil _ | exact Sub.refl _ | refine Sub.heap_cons (Take.none _) ?_ | refine Sub.heap_cons (by repeat (first | exact Take.head _ _ | apply Take.tail)) ?_)
                · refine LW.move rfl rfl ?_
                  refine LW.call (law_records_ne W B (ch5 ++ (ar5 ++ (ch ++ rr))) A5 Aw cp5 cpw _ _ g2.recs g.recs rfl rfl vs5 vs (Src.left W B ho5.src) (hr5.more (fun x hx => by simp [hx])) (Src.right W B (Src.right W B (Src.left W B ho.src))) (hra.more (fun x hx => by simp [hx])) hcnt2 hcnt hab) Tryd.func30 rfl FactsLawLogAll.fname30 ⟨rfl, rfl, trivial⟩ (Take.both (by repeat (first | exact Take.head _ _ | apply Take.tail)) (Take.both (by repeat (first | exact Take.head _ _ | apply Take.tail)) (Take.both (by repeat (first | exact Take.head _ _ | apply Take.tail)) (by repeat (first | exact Take.head _ _ | apply Take.tail))))) rfl ?_
                  rintro _ _ ⟨rfl, rfl⟩; refine LW.split2 (LW.split2p (LW.split3p ?_))
                  refine LW.move rfl rfl ?_
                  refine LW.off 169 rfl rfl rfl rfl ?_
                  refine LW.off 169 rfl rfl rfl rfl ?_
                  refine LW.off 169 rfl rfl rfl rfl ?_
                  refine LW.pickF rfl rfl rfl ?_
                  refine LW.assign rfl rfl ?_
                  refine LW.nil ?_
                  refine NW.then_ ?_
                  refine CW.cut (fun st : AllE => [(26, .int .i64 st.g.area), (24, st.v), (23, .pointer (some ⟨st.l, 0, none⟩)), (13, .int .i64 (i : Int)), (9, .int .i64 (ringN n : Int)), (6, .pointer (some ⟨st.p, 0, none⟩)), (1, .slice (some a) os.length cp)]) (fun st => [[logR st.l st.q st.p st.g.log], [slC st.q st.p st.g.serial false], devC st.p st.bn st.bw st.bl n st.d, st.ch, st.rr]) (fun st => st.Ok W B n (2 + (i : Int))) ?cut54_1 ?cut54_2
                  case cut54_1 =>
                    refine CW.seq ?_
                    refine CW.region ?_
                    refine LW.move rfl rfl ?_
                    refine LW.not (true) rfl (rfl) rfl ?_
                    refine LW.move rfl rfl ?_
                    refine LW.on 176 rfl rfl ?_
                    refine LW.move rfl rfl ?_
                    refine LW.on 176 rfl rfl ?_
                    refine LW.move rfl rfl ?_
                    refine LW.on 176 rfl rfl ?_
                    refine LW.call (law_records_eq W B (ch5 ++ (ar5 ++ ((ch ++ mch) ++ rr))) A5 MA cp5 mcp g2.recs.length g2.recs.length g2.recs rfl rfl vs5 mvs (Src.left W B ho5.src) (hr5.more (fun x hx => by simp [hx])) (Src.right W B (Src.right W B (Src.left W B hms))) (hmr.more (fun x hx => by simp [hx])) hcnt2) Tryd.func30 rfl FactsLawLogAll.fname30 ⟨rfl, rfl, trivial⟩ (Take.both (by repeat (first | exact Take.head _ _ | apply Take.tail)) (Take.both (by repeat (first | exact Take.head _ _ | apply Take.tail)) (Take.both (Take.both (by repeat (first | exact Take.head _ _ | apply Take.tail)) (by repeat (first | exact Take.head _ _ | apply Take.tail))) (by repeat (first | exact Take.head _ _ | apply Take.tail))))) rfl ?_
                    rintro _ _ ⟨rfl, rfl⟩; refine LW.split2 (LW.split2p ?_)
                    refine LW.on 176 rfl rfl ?_
                    refine LW.move rfl rfl ?_
                    refine LW.on 180 rfl rfl ?_
                    refine LW.move rfl rfl ?_
                    refine LW.on 180 rfl rfl ?_
                    refine LW.move rfl rfl ?_
                    refine LW.on 180 rfl rfl ?_
                    refine LW.eql true rfl rfl (beq_iff_eq.2 rfl) rfl ?_
                    refine LW.on 176 rfl rfl ?_
                    refine LW.pickT rfl rfl rfl ?_
                    refine LW.on 176 rfl rfl ?_
                    refine LW.not (false) rfl (rfl) rfl ?_
                    refine LW.pickT rfl rfl rfl ?_
                    refine LW.move rfl rfl ?_
                    refine LW.on 187 rfl rfl ?_
                    refine LW.move rfl rfl ?_
                    refine LW.on 187 rfl rfl ?_
                    refine LW.move rfl rfl ?_
                    refine LW.on 187 rfl rfl ?_
                    refine LW.add (g2.area + 1) rfl rfl (wr64 rfl (by have := har2.2; omega) (by have := har2.2; omega)) rfl ?_
                    by_cases hln : g2.length = g2.area + 1
                    · refine LW.on 187 rfl rfl ?_
                      refine LW.neq false rfl rfl (bne_eq_false_iff_eq.2 hln) rfl ?_
                      refine LW.on 187 rfl rfl ?_
                      refine LW.move rfl rfl ?_
                      refine LW.off 192 rfl rfl rfl rfl ?_
                      refine LW.off 192 rfl rfl rfl rfl ?_
                      refine LW.on 187 rfl rfl ?_
                      refine LW.pickF rfl rfl rfl ?_
                      refine LW.pickF rfl rfl rfl ?_
                      refine LW.nil ?_
                      refine NW.then_ ?_
                      refine CW.cond_false rfl ?_
                      refine CW.skip ?_
                      refine NW.meet (⟨g2, d.crash n keep, cp', cn, cw, cl, l5, q5, .slice A5 g2.recs.length cp5, vs5, ch5, ar5⟩) ?j22 ?e22 ?h22
                      case j22 => exact ⟨hok.crash keep, crash_flat _ _ _, hfi2, hc, hse2, ho5, hr5, har2⟩
                      case e22 => repeat (first | exact Env.Le.nil _ | refine Env.Le.cons rfl ?_)
                      case h22 => repeat (first | exact Sub.heap_nil _ | exact Sub.refl _ | refine Sub.heap_cons (Take.none _) ?_ | refine Sub.heap_cons (by repeat (first | exact Take.head _ _ | apply Take.tail)) ?_)
                    · refine LW.on 187 rfl rfl ?_
                      refine LW.neq true rfl rfl (bne_iff_ne.2 hln) rfl ?_
                      refine LW.on 187 rfl rfl ?_
                      refine LW.move rfl rfl ?_
                      refine LW.on 192 rfl rfl ?_
                      refine LW.move rfl rfl ?_
                      refine LW.on 192 rfl rfl ?_
                      refine LW.neq false rfl rfl (bne_eq_false_iff_eq.2 (har2.1.resolve_left hln)) rfl ?_
                      refine LW.on 187 rfl rfl ?_
                      refine LW.pickT rfl rfl rfl ?_
                      refine LW.pickF rfl rfl rfl ?_
                      refine LW.nil ?_
                      refine NW.then_ ?_
                      refine CW.cond_false rfl ?_
                      refine CW.skip ?_
                      refine NW.meet (⟨g2, d.crash n keep, cp', cn, cw, cl, l5, q5, .slice A5 g2.recs.length cp5, vs5, ch5, ar5⟩) ?j23 ?e23 ?h23
                      case j23 => exact ⟨hok.crash keep, crash_flat _ _ _, hfi2, hc, hse2, ho5, hr5, har2⟩
                      case e23 => repeat (first | exact Env.Le.nil _ | refine Env.Le.cons rfl ?_)
                      case h23 => repeat (first | exact Sub.heap_nil _ | exact Sub.refl _ | refine Sub.heap_cons (Take.none _) ?_ | refine Sub.heap_cons (by repeat (first | exact Take.head _ _ | apply Take.tail)) ?_)
                  case cut54_2 =>
                    clear hok hfi hfi2 ho hra har har2 hse hse2 hno hyes; rintro ⟨g, d, p, bn, bw, bl, l, q, v, vs, ch, rr⟩ ⟨hok, hfl, hfi, hl, hse, ho, hra, har⟩; dsimp only at hok hfl hfi hl hse ho hra har; have hfit := hfi.fits
                    try dsimp only
                    refine CW.seq ?_
                    obtain ⟨A5, cp5, rfl, hA5, hc5⟩ := OwnS.val ho
                    refine CW.region ?_
                    refine LW.move rfl rfl ?_
                    refine LW.move rfl rfl ?_
                    refine LW.move rfl rfl ?_
                    refine LW.assign rfl rfl ?_
                    refine LW.assign rfl rfl ?_
                    refine LW.assign rfl rfl ?_
                    refine LW.assign rfl rfl ?_
                    refine LW.nil ?_
                    refine NW.then_ ?_
                    refine CW.seq ?_
                    refine CW.region ?_
                    refine LW.move rfl rfl ?_
                    refine LW.lenSlice rfl Tryd.underlying36 rfl ?_
                    refine LW.move rfl rfl ?_
                    refine LW.nil ?_
                    refine NW.then_ ?_
                    refine CW.block ?_
                    refine CW.loop (fun j : Nat => [(202, .int .i64 (j : Int)), (201, .int .i64 (g.recs.length : Int)), (200, .slice A5 g.recs.length cp5), (13, .int .i64 (i : Int)), (12, .int .i64 ((recsB (g.recs.take j)).length : Int)), (11, .int .i64 g.area), (10, .slice A5 g.recs.length cp5), (9, .int .i64 (ringN n : Int)), (7, .pointer (some ⟨l, 0, none⟩)), (6, .pointer (some ⟨p, 0, none⟩)), (1, .slice (some a) os.length cp)]) (fun _ => [[logR l q p g.log], [slC q p g.serial false], devC p bn bw bl n d, ch, rr]) (fun j => j ≤ g.recs.length) (fun j => g.recs.length - j) 0 ?st56_j ?st56_e ?st56_h ?st56_r
                    case st56_j => exact Nat.zero_le _
                    case st56_e => repeat (first | exact Env.Le.nil _ | refine Env.Le.cons rfl ?_)
                    case st56_h => repeat (first | exact Sub.heap_nil _ | exact Sub.refl _ | refine Sub.heap_cons (Take.none _) ?_ | refine Sub.heap_cons (by repeat (first | exact Take.head _ _ | apply Take.tail)) ?_)
                    case st56_r =>
                      intro j hj
                      try dsimp only
                      refine CW.seq ?_
                      refine CW.region ?_
                      refine LW.lss _ rfl rfl rfl rfl ?_
                      refine LW.nil ?_
                      refine NW.then_ ?_
                      refine CW.seq ?_
                      refine CW.cond rfl (fun hc203 => ?_) (fun hc203 => ?_)
                      · replace hc203 := of_decide_eq_true hc203
                        try dsimp only at hc203
                        have hjn : j < g.recs.length := by omega
                        obtain ⟨Br, qr, hvr, hxr, _, _⟩ := hra.2 j hjn
                        have hgr : vs[j]? = some (.slice Br (g.recs.getD j []).length qr) := by rw [show Value.slice Br (g.recs.getD j []).length qr = vs.getD j undef from hvr.symm]; simp [List.getD, List.getElem?_eq_getElem (show j < vs.length by rw [hra.1]; exact hjn)]
                        obtain ⟨a5, rfl⟩ : ∃ a, A5 = some a := (OwnS.src (W := W) (B := B) ho).some (by rw [hra.1]; omega)
                        have hrl := (hfi.recs _ (List.mem_of_getElem? (show g.recs[j]? = some (g.recs.getD j []) by simp [List.getD, List.getElem?_eq_getElem hjn]))).2
                        have hcnt := recs_count hfi
                        have htk := recsB_take g.recs j
                        have hus : g.used = (recsB g.recs).length := rfl
                        have hsu := recsB_take_succ g.recs j hjn
                        refine CW.skip ?_
                        refine NW.then_ ?_
                        refine CW.seq ?_
                        refine CW.block ?_
                        refine CW.seq ?_
                        refine CW.region ?_
                        refine LW.indexAt rfl rfl Tryd.underlying36 FactsLawLogAll.ixs36 (by omega) (by omega) rfl ?_
                        refine LW.loadRd (v := .slice Br (g.recs.getD j []).length qr) rfl ((OwnS.src ho).rd (by repeat (first | exact Take.head _ _ | apply Take.tail))) (by rw [Int.toNat_natCast, Nat.mul_one]; exact hgr) FactsLawLogAll.one31 rfl ?_
                        refine LW.assign rfl rfl ?_
                        refine LW.nil ?_
                        refine NW.then_ ?_
                        refine CW.region ?_
                        refine LW.move rfl rfl ?_
                        refine LW.move rfl rfl ?_
                        refine LW.lenSlice rfl Tryd.underlying31 rfl ?_
                        refine LW.add64 rfl rfl (by omega) (by omega) rfl ?_
                        refine LW.add (((recsB (g.recs.take (j + 1))).length : Int)) rfl rfl (by rw [hsu]; exact wr64 (by omega) (by omega) (by omega)) rfl ?_
                        refine LW.assign rfl rfl ?_
                        refine LW.nil ?_
                        refine NW.block ?_
                        refine NW.then_ ?_
                        refine CW.region ?_
                        refine LW.add ((j + 1 : Int)) rfl rfl (by first | rfl | exact wr64 (by omega) (by omega) (by omega)) rfl ?_
                        refine LW.move rfl rfl ?_
                        refine LW.nil ?_
                        refine NW.meet (j + 1) ?j24 ?e24 ?h24
                        case j24 => exact ⟨hjn, by omega⟩
                        case e24 => repeat (first | exact Env.Le.nil _ | refine Env.Le.cons rfl ?_)
                        case h24 => repeat (first | exact Sub.heap_nil _ | exact Sub.refl _ | refine Sub.heap_cons (Take.none _) ?_ | refine Sub.heap_cons (by repeat (first | exact Take.head _ _ | apply Take.tail)) ?_)
                      · replace hc203 := of_decide_eq_false hc203
                        try dsimp only at hc203
                        obtain rfl : j = g.recs.length := by omega
                        rw [show (recsB (g.recs.take g.recs.length)).length = g.used by rw [List.take_length]; rfl]
                        refine CW.exit ?_
                        refine NW.then_exit ?_
                        refine NW.then_exit ?_
                        refine NW.block_exit ?_
                        refine NW.meet (⟨g, d, p, bn, bw, bl, l, q, .slice A5 g.recs.length cp5, vs, ch, rr⟩) ?j25 ?e25 ?h25
                        case j25 => exact ⟨hok, hfl, hfi, hl, hse, ho, hra, har⟩
                        case e25 => repeat (first | exact Env.Le.nil _ | refine Env.Le.cons rfl ?_)
                        case h25 => repeat (first | exact Sub.heap_nil _ | exact Sub.refl _ | refine Sub.heap_cons (Take.none _) ?_ | refine Sub.heap_cons (by repeat (first | exact Take.head _ _ | apply Take.tail)) ?_)
          case cut60_2 =>
            clear hok hfi hfi2 ho hra har har2 hse hse2 hno hyes; rintro ⟨g, d, p, bn, bw, bl, l, q, v, vs, ch, rr⟩ ⟨hok, hfl, hfi, hl, hse, ho, hra, har⟩; dsimp only at hok hfl hfi hl hse ho hra har; have hfit := hfi.fits
            try dsimp only
            refine CW.seq ?_
            refine CW.region ?_
            refine LW.move rfl rfl ?_
            refine LW.call (wal_Area W B l q p g.log) Tryd.func31 rfl FactsLawLogAll.fname31 ⟨rfl, trivial⟩ (by repeat (first | exact Take.head _ _ | apply Take.tail)) rfl ?_
            rintro _ _ ⟨rfl, rfl⟩
            refine LW.move rfl rfl ?_
            refine LW.extract rfl rfl rfl ?_
            refine LW.extract rfl rfl rfl ?_
            refine LW.assign rfl rfl ?_
            refine LW.assign rfl rfl ?_
            refine LW.nil ?_
            refine NW.then_ ?_
            refine CW.seq ?_
            refine CW.region ?_
            refine LW.move rfl rfl ?_
            refine LW.move rfl rfl ?_
            refine LW.neq false rfl rfl (bne_eq_false_iff_eq.2 rfl) rfl ?_
            refine LW.move rfl rfl ?_
            refine LW.on 220 rfl rfl ?_
            refine LW.move rfl rfl ?_
            refine LW.on 220 rfl rfl ?_
            refine LW.call (wal_Room W B l q p bn bw bl n d (by omega) (by omega) g.log (by show g.used ≤ _; omega)) Tryd.func24 rfl FactsLawLogAll.fname24 ⟨rfl, trivial⟩ (Take.both (by repeat (first | exact Take.head _ _ | apply Take.tail)) (by repeat (first | exact Take.head _ _ | apply Take.tail))) rfl ?_
            rintro _ _ ⟨rfl, rfl⟩; refine LW.split2 ?_
            refine LW.on 220 rfl rfl ?_
            refine LW.move rfl rfl ?_
            refine LW.on 220 rfl rfl ?_
            refine LW.move rfl rfl ?_
            refine LW.on 220 rfl rfl ?_
            refine LW.sub64 rfl rfl (by omega) (by omega) rfl ?_
            refine LW.on 220 rfl rfl ?_
            refine LW.neq false rfl rfl (bne_eq_false_iff_eq.2 rfl) rfl ?_
            refine LW.pickF rfl rfl rfl ?_
            refine LW.nil ?_
            refine NW.then_ ?_
            refine CW.cond_false rfl ?_
            refine CW.skip ?_
            refine NW.block ?_
            refine NW.then_ ?_
            refine CW.region ?_
            refine LW.move rfl rfl ?_
            refine LW.add ((i + 1 : Int)) rfl rfl (by first | rfl | exact wr64 (by omega) (by omega) (by omega)) rfl ?_
            refine LW.assign rfl rfl ?_
            refine LW.nil ?_
            refine NW.meet ((i + 1, ⟨g, d, p, bn, bw, bl, l, q, v, vs, ch, rr⟩)) ?j26 ?e26 ?h26
            case j26 => exact ⟨⟨by dsimp only; omega, hok, hfl, hfi, hl, by dsimp only; omega, ho, hra, har⟩, by dsimp only; omega⟩
            case e26 => repeat (first | exact Env.Le.nil _ | refine Env.Le.cons rfl ?_)
            case h26 => repeat (first | exact Sub.heap_nil _ | exact Sub.refl _ | refine Sub.heap_cons (Take.none _) ?_ | refine Sub.heap_cons (by repeat (first | exact Take.head _ _ | apply Take.tail)) ?_)
      · refine LW.on 58 rfl rfl ?_
        refine LW.lss false rfl rfl (decide_eq_false (by omega)) rfl ?_
        refine LW.pickT rfl rfl rfl ?_
        refine LW.nil ?_
        refine NW.then_ ?_
        refine CW.cond_false rfl ?_
        refine CW.exit ?_
        refine NW.then_exit ?_
        refine NW.then_exit ?_
        refine NW.block_exit ?_
        refine NW.then_ ?_
        refine CW.seq ?_
        refine CW.region ?_
        refine LW.assign rfl rfl ?_
        refine LW.nil ?_
        refine NW.then_ ?_
        refine CW.ret ?_
        refine NW.ret1 rfl rfl ⟨_, ⟨rfl, rfl⟩, ?_⟩
        exact Sub.nil _
    · refine LW.lss false rfl rfl (decide_eq_false (by omega)) rfl ?_
      refine LW.move rfl rfl ?_
      refine LW.off 58 rfl rfl rfl rfl ?_
      refine LW.off 58 rfl rfl rfl rfl ?_
      refine LW.pickF rfl rfl rfl ?_
      refine LW.nil ?_
      refine NW.then_ ?_
      refine CW.cond_false rfl ?_
      refine CW.exit ?_
      refine NW.then_exit ?_
      refine NW.then_exit ?_
      refine NW.block_exit ?_
      refine NW.then_ ?_
      refine CW.seq ?_
      refine CW.region ?_
      refine LW.assign rfl rfl ?_
      refine LW.nil ?_
      refine NW.then_ ?_
      refine CW.ret ?_
      refine NW.ret1 rfl rfl ⟨_, ⟨rfl, rfl⟩, ?_⟩
      exact Sub.nil _
end
end Go.Proofs.YtpnhonhjheahhaaDoor
