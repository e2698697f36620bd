/-
  A LOG WRITTEN: the contracts.
-/
import Derived.Test.YtpnhonhjheahhaaDoorWal1
import Derived.Test.YtpnhonhjheahhaaDoorAppF
namespace Go.Proofs.YtpnhonhjheahhaaDoor
open Go.RowKit
namespace FactsWal2
theorem fa81_0 (b o : Nat) (w : World) : (Instr.fieldAt 81 (.pointer (some ⟨b, o, none⟩)) 0).run Tryd.prog w = .ok (.pointer (some ⟨b, o, none⟩)) w := by kernel_rfl
theorem fa81_4 (b o : Nat) (w : World) : (Instr.fieldAt 81 (.pointer (some ⟨b, o, none⟩)) 4).run Tryd.prog w = .ok (.pointer (some ⟨b, o + 4, none⟩)) w := by kernel_rfl
theorem fname39 : (Tryd.f39.name == "runtime.NumGoroutine") = false := by kernel_rfl
theorem fname40 : (Tryd.f40.name == "runtime.NumGoroutine") = false := by kernel_rfl
theorem fname53 : (Tryd.f53.name == "runtime.NumGoroutine") = false := by kernel_rfl
theorem info5 : (Tryd.prog.info? 5).map (fun i => (i.zero, i.size, i.bytes)) = some (some (.int .u8 0), 1, 1) := by kernel_rfl
theorem mixed : Tryd.prog.follows .mixedOrders = true := by kernel_rfl
theorem one27 : oneB Tryd.prog 27 = true := by kernel_rfl
theorem one3 : oneB Tryd.prog 3 = true := by kernel_rfl
theorem szt5 : (Tryd.prog.info? 5).map (·.size) = some 1 := by kernel_rfl
end FactsWal2
def logR (l q p : Nat) (L : LogV) : Row := cr l 81 [.pointer (some ⟨p, 0, none⟩), .pointer (some ⟨q, 0, none⟩), .int .i64 L.area, .int .i64 L.length, .int .i64 (L.used : Int), .bool L.lbad]
theorem zeros64 : (madeCells (Value.int .u8 0).cells (64 * 1)).toList = (List.replicate 64 (0 : UInt8)).map u8v := by
  rw [List.map_replicate]
  exact madeCells_rep _ _ _ (by intro x hx; simp [Value.cells] at hx; exact hx) (by simp [Value.cells])
theorem pad_row (r : List UInt8) (k : Nat) (hk : k = ((r.take 64).map u8v).length) : ((List.replicate 64 (0 : UInt8)).map u8v).take 0 ++ (r.take 64).map u8v ++ ((List.replicate 64 (0 : UInt8)).map u8v).drop (0 + k) = (padS r).map u8v := by
  subst hk
  rw [List.take_zero, List.nil_append, Nat.zero_add, List.length_map, List.length_take, padS, List.map_append, List.map_replicate, List.drop_replicate, List.map_replicate]
  congr 2
  omega
theorem wrO_okDev (n : Nat) : ∀ (k : Nat) (d : DevS) (i : Nat) (b : List UInt8), d.Ok n → (wrS n k d i b).2.Ok n
  | 0, _, _, _, h => h
  | k + 1, d, i, b, h => by
    rw [wrS]
    split
    · exact h
    · split
      · exact wrO_okDev n k _ _ _ (h.write _ _)
      · exact h
section
variable (W : World) (B : Nat)
set_option maxHeartbeats 1000000 in
theorem wal_write (l q p bn bw bl n : Nat) (s : DevS) (hs : s.Ok n) (L : LogV) (hu : L.used < ringN n) (b : List UInt8) (hb0 : 0 < b.length) (hb : b.length ≤ 100000) (src : List Row) (A : Option Addr) (cp : Nat) (hsrc : Src W B src A (b.map u8v)) :
    Spec Tryd.prog W B 45 [.pointer (some ⟨l, 0, none⟩), .slice A b.length cp] (src ++ ([logR l q p L] ++ devC p bn bw bl n s))
      (fun v post => v = .int .i64 (writeL n s L.used b).1 ∧ post = src ++ ([logR l q p L] ++ devC p bn bw bl n (writeL n s L.used b).2)) := by
  have hn0 := hs.n0
  have hn1 := hs.n1
  unfold ringN at hu
  have hin : 2 + L.used / 64 < n := by omega
  have hNl : (s.N (2 + L.used / 64)).length = 64 := hs.now.get (hs.now.getD hin)
  have hrd := dev_Read W B p bn bw bl n s hs (2 + L.used / 64) hin
  rw [show s.now.getD (2 + L.used / 64) [] = s.N (2 + L.used / 64) from rfl] at hrd
  have hwy : (wrO n s (2 + L.used / 64) (headW s L.used b)).1 = 0 → writeL n s L.used b = ((wrO n s (2 + L.used / 64) (headW s L.used b)).2.flushE, (wrO n s (2 + L.used / 64) (headW s L.used b)).2.flush n) := fun h => by rw [writeL, if_pos h]
  have hwn : (wrO n s (2 + L.used / 64) (headW s L.used b)).1 ≠ 0 → writeL n s L.used b = wrO n s (2 + L.used / 64) (headW s L.used b) := fun h => by rw [writeL, if_neg h]
  have hh : headW s L.used b = (s.N (2 + L.used / 64)).take (L.used % 64) ++ b := rfl
  have hhl : (headW s L.used b).length = L.used % 64 + b.length := by rw [hh, List.length_append, List.length_take, hNl]; omega
  refine Spec.enter ([src, [cr l 81 [.pointer (some ⟨p, 0, none⟩), .pointer (some ⟨q, 0, none⟩), .int .i64 L.area, .int .i64 L.length, .int .i64 (L.used : Int), .bool L.lbad]], devC p bn bw bl n s]) Tryd.func45 rfl Tryd.ntmps45 rfl (by first | rfl | simp) (fun w0 => ?_)
  refine CW.seq ?_
  refine CW.region ?_
  refine LW.assign rfl rfl ?_
  refine LW.nil ?_
  refine NW.then_ ?_
  refine CW.seq ?_
  refine CW.quiet FactsWal2.mixed (by kernel_rfl) ?_
  refine QW.step (Yl.move rfl) rfl ?_
  refine QW.step (Yl.nilPtr rfl) rfl ?_
  refine QW.step (Yl.fieldAddr _ rfl (fun _ => FactsWal2.fa81_4 _ _ _)) rfl ?_
  refine QW.step (Yl.loadSt rfl (by repeat (first | exact Take.head _ _ | apply Take.tail)) rfl FactsWal2.one3) rfl ?_
  refine QW.step (Yl.quo (((L.used / 64 : Nat) : Int)) rfl rfl (by decide) ((by rw [tdivN (by omega) (by decide)]; exact wr64 (by omega) (by omega) (by omega)))) rfl ?_
  refine QW.step (Yl.add (((2 + L.used / 64 : Nat) : Int)) rfl rfl ((by exact wr64 (by omega) (by omega) (by omega)))) rfl ?_
  refine QW.step (Yl.move rfl) rfl ?_
  refine QW.step (Yl.nilPtr rfl) rfl ?_
  refine QW.step (Yl.fieldAddr _ rfl (fun _ => FactsWal2.fa81_4 _ _ _)) rfl ?_
  refine QW.step (Yl.loadSt rfl (by repeat (first | exact Take.head _ _ | apply Take.tail)) rfl FactsWal2.one3) rfl ?_
  refine QW.step (Yl.rem (((L.used % 64 : Nat) : Int)) rfl rfl (by decide) ((by rw [Int.tmod_eq_emod_of_nonneg (by omega)]; omega))) rfl ?_
  refine QW.step (Yl.assign rfl) rfl ?_
  refine QW.step (Yl.assign rfl) rfl ?_
  refine QW.nil ?_
  refine NW.then_ ?_
  refine CW.seq ?_
  refine CW.region ?_
  refine LW.move rfl rfl ?_
  refine LW.nilPtr rfl rfl ?_
  refine LW.fieldAddr _ rfl (fun _ => FactsWal2.fa81_0 _ _ _) rfl ?_
  refine LW.load rfl (by repeat (first | exact Take.head _ _ | apply Take.tail)) rfl FactsWal2.one27 rfl ?_
  refine LW.move rfl rfl ?_
  refine LW.call (hrd) Tryd.func40 rfl FactsWal2.fname40 ⟨rfl, rfl, trivial⟩ (by repeat (first | exact Take.head _ _ | apply Take.tail)) rfl ?_
  rintro _ _ ⟨q1, rfl, rfl⟩; refine LW.split1 ?_
  refine LW.move rfl rfl ?_
  refine LW.extract rfl rfl rfl ?_
  refine LW.extract rfl rfl rfl ?_
  refine LW.assign rfl rfl ?_
  refine LW.assign rfl rfl ?_
  refine LW.nil ?_
  refine NW.then_ ?_
  refine CW.seq ?_
  refine CW.seq ?_
  refine CW.region ?_
  refine LW.move rfl rfl ?_
  refine LW.neq false rfl rfl (rfl) rfl ?_
  refine LW.nil ?_
  refine NW.then_ ?_
  refine CW.cond_false rfl ?_
  refine CW.skip ?_
  refine NW.then_ ?_
  refine CW.seq ?_
  refine CW.region ?_
  refine LW.move rfl rfl ?_
  refine LW.move rfl rfl ?_
  refine LW.move rfl rfl ?_
  refine LW.cut (0) (L.used % 64) (L.used % 64) none (some _) (some _) rfl Tryd.underlying31 FactsWal2.szt5 (fun a hf => rfl) (fun a hf => congrArg some (hf.eval rfl)) (fun a hf => congrArg some (hf.eval rfl)) (.inl ⟨rfl, rfl⟩) (.inr ⟨_, rfl⟩) (.inr ⟨_, rfl⟩) (by omega) (by omega) (by omega) (by omega) rfl ?_
  rw [cutA_zero']
  refine LW.move rfl rfl ?_
  refine LW.appendFull (((s.N (2 + L.used / 64)).take (L.used % 64)).map u8v) (b.map u8v) rfl rfl Tryd.underlying31 Tryd.underlying31 (.inr ⟨_, rfl⟩) FactsWal2.info5 rfl (by rw [List.map_take]; exact (RdAt.row (by repeat (first | exact Take.head _ _ | apply Take.tail)) (fun j v hj => by rw [Nat.zero_add]; exact hj) : RdAt _ _ (some ⟨q1, 0, none⟩) ((s.N (2 + L.used / 64)).map u8v)).sub _) (by rw [List.length_map, List.length_take, hNl]; omega) (fun h => by cases h) (fun _ => lenOf_slice _ _ _ _) (first_rd (hsrc.rd (by repeat (first | exact Take.head _ _ | apply Take.tail))) (by simp) (fun h => by exfalso; obtain ⟨x, hx⟩ := hsrc.some (by rw [List.length_map]; exact hb0); rw [hx] at h; cases h)) (by simp) hb0 (by omega) (by omega) rfl ?_
  intro v4 ch4 ho4; rw [← List.map_append, ← hh] at ho4
  have ho5 : OwnB v4 (headW s L.used b) ch4 := by unfold OwnB; rw [hhl]; exact ho4
  have hrd4 := RdS.of (W := W) (B := B) ho5
  refine LW.assign rfl rfl ?_
  refine LW.nil ?_
  refine NW.then_ ?_
  refine CW.seq ?_
  refine CW.block ?_
  refine CW.loop (fun st : List UInt8 × Value × Nat × DevS => [(5, .int .i64 (st.2.2.1 : Int)), (1, st.2.1), (0, .pointer (some ⟨l, 0, none⟩))]) (fun st => [ch4, src, [cr l 81 [.pointer (some ⟨p, 0, none⟩), .pointer (some ⟨q, 0, none⟩), .int .i64 L.area, .int .i64 L.length, .int .i64 (L.used : Int), .bool L.lbad]], devC p bn bw bl n st.2.2.2]) (fun st => RdS W B st.2.1 st.1 ch4 ∧ st.2.2.2.Ok n ∧ wrO n s (2 + L.used / 64) (headW s L.used b) = wrO n st.2.2.2 st.2.2.1 st.1 ∧ st.2.2.1 * 64 + st.1.length ≤ 10000000 ∧ st.1.length ≤ (headW s L.used b).length) (fun st => st.1.length) (headW s L.used b, v4, 2 + L.used / 64, s) ?st6_j ?st6_e ?st6_h ?st6_r
  case st6_j => exact ⟨hrd4, hs, rfl, by dsimp only; omega, by dsimp only; omega⟩
  case st6_e => repeat (first | exact Env.Le.nil _ | refine Env.Le.cons rfl ?_)
  case st6_h => repeat (first | exact Sub.heap_nil _ | exact Sub.refl _ | refine Sub.heap_cons (Take.none _) ?_ | refine Sub.heap_cons (by repeat (first | exact Take.head _ _ | apply Take.tail)) ?_)
  case st6_r =>
    rintro ⟨r, v1, i, d⟩ ⟨hv1, hd, hwr, hib, hrl⟩; dsimp only at hv1 hd hwr hib hrl; obtain ⟨A1, cp1, rfl, hc1, hs1⟩ := hv1
    try dsimp only
    refine CW.seq ?_
    refine CW.seq ?_
    skip
    refine CW.region ?_
    refine LW.move rfl rfl ?_
    refine LW.lenSlice rfl Tryd.underlying31 rfl ?_
    refine LW.gtr _ rfl rfl rfl rfl ?_
    refine LW.nil ?_
    refine NW.then_ ?_
    refine CW.cond rfl (fun hc42 => ?_) (fun hc42 => ?_)
    · replace hc42 := of_decide_eq_true hc42
      try dsimp only at hc42
      have hr0 : r.length ≠ 0 := by omega
      obtain ⟨a1, rfl⟩ : ∃ a, A1 = some a := hs1.some (by rw [List.length_map]; omega)
      have hpl := padS_len r
      refine CW.skip ?_
      refine NW.then_ ?_
      refine CW.seq ?_
      refine CW.block ?_
      refine CW.seq ?_
      refine CW.region ?_
      refine LW.make (64) (64) ((List.replicate 64 (0 : UInt8)).map u8v) rfl rfl (by first | rfl | omega) (by first | rfl | omega) Tryd.underlying31 FactsWal2.info5 (by omega) (by omega) (by omega) (zeros64) rfl ?_
      intro bm45
      refine LW.assign rfl rfl ?_
      refine LW.nil ?_
      refine NW.then_ ?_
      refine CW.seq ?_
      refine CW.region ?_
      refine LW.move rfl rfl ?_
      refine LW.move rfl rfl ?_
      refine LW.move rfl rfl ?_
      refine LW.copy ((r.take 64).map u8v) ((padS r).map u8v) rfl rfl Tryd.underlying31 FactsWal2.szt5 (by repeat (first | exact Take.head _ _ | apply Take.tail)) (by rw [List.map_take]; exact (hs1.rd (by repeat (first | exact Take.head _ _ | apply Take.tail))).sub 64) (by rw [List.length_map, List.length_take]; omega) (fun h => (by cases h)) (by rw [List.length_map, List.length_take, List.length_map, List.length_replicate]; omega) (u8vs_one _) (pad_row r _ rfl) rfl ?_
      refine LW.cut (min r.length 64) (r.length) (cp1) (some _) none none rfl Tryd.underlying31 FactsWal2.szt5 (fun a hf => congrArg some (hf.eval rfl)) (fun a hf => rfl) (fun a hf => rfl) (.inr ⟨_, rfl⟩) (.inl ⟨rfl, rfl, rfl⟩) (.inl ⟨rfl, rfl⟩) (by omega) (by omega) (by omega) (by omega) rfl ?_
      refine LW.assign rfl rfl ?_
      refine LW.nil ?_
      refine NW.then_ ?_
      refine CW.seq ?_
      refine CW.region ?_
      refine LW.move rfl rfl ?_
      refine LW.nilPtr rfl rfl ?_
      refine LW.fieldAddr _ rfl (fun _ => FactsWal2.fa81_0 _ _ _) rfl ?_
      refine LW.load rfl (by repeat (first | exact Take.head _ _ | apply Take.tail)) rfl FactsWal2.one27 rfl ?_
      refine LW.move rfl rfl ?_
      refine LW.move rfl rfl ?_
      have hW := dev_WriteG W B p bn bw bl n d hd (i : Int) [cr bm45 5 ((padS r).map u8v)] (some ⟨bm45, 0, none⟩) 64 (padS r) (Src.row (fun j v hj => by rw [Nat.zero_add]; exact hj))
      rw [hpl] at hW
      refine LW.call (hW) Tryd.func39 rfl FactsWal2.fname39 ⟨rfl, rfl, rfl, trivial⟩ (Take.both (by repeat (first | exact Take.head _ _ | apply Take.tail)) (by repeat (first | exact Take.head _ _ | apply Take.tail))) rfl ?_
      rintro _ _ ⟨rfl, rfl⟩; refine LW.split2 ?_
      refine LW.assign rfl rfl ?_
      refine LW.nil ?_
      refine NW.then_ ?_
      refine CW.seq ?_
      refine CW.region ?_
      refine LW.move rfl rfl ?_
      refine LW.neq _ rfl rfl rfl rfl ?_
      refine LW.nil ?_
      refine NW.then_ ?_
      refine CW.cond rfl (fun hc59 => ?_) (fun hc59 => ?_)
      · replace hc59 := bne_iff_ne.1 hc59
        try dsimp only at hc59
        have hfin := hwn (by rw [hwr, wrO_no hr0 hc59]; exact hc59)
        rw [hwr, wrO_no hr0 hc59] at hfin
        have hdw : d.write n (i : Int) (padS r) = d := by rw [DevS.write, if_neg (by rw [hpl]; exact hc59)]
        rw [hdw]
        refine CW.seq ?_
        refine CW.region ?_
        refine LW.move rfl rfl ?_
        refine LW.assign rfl rfl ?_
        refine LW.nil ?_
        refine NW.then_ ?_
        refine CW.ret ?_
        refine NW.block_ret ?_
        refine NW.then_ret ?_
        refine NW.then_ret ?_
        refine NW.block_ret ?_
        refine NW.then_ret ?_
        refine NW.ret1 rfl rfl ⟨_, ⟨by rw [hfin], by rw [hfin]⟩, ?_⟩
        exact Sub.app (by repeat (first | exact Take.head _ _ | apply Take.tail)) (Sub.take (by repeat (first | exact Take.head _ _ | apply Take.tail)) (Sub.one (by repeat (first | exact Take.head _ _ | apply Take.tail))))
      · replace hc59 := bne_eq_false_iff_eq.1 hc59
        try dsimp only at hc59
        rw [wrO_ok hr0 hc59] at hwr
        refine CW.skip ?_
        refine NW.block ?_
        refine NW.then_ ?_
        refine CW.region ?_
        refine LW.move rfl rfl ?_
        refine LW.add64 rfl rfl (by omega) (by omega) rfl ?_
        refine LW.assign rfl rfl ?_
        refine LW.nil ?_
        refine NW.meet ((r.drop 64, .slice (cutA (some a1) cp1 (min r.length 64) 1) (r.length - min r.length 64) (cp1 - min r.length 64), i + 1, d.write n (i : Int) (padS r))) ?j1 ?e1 ?h1
        case j1 => exact ⟨⟨by
          have h9 := RdS.cut hs1 hc1 (min r.length 64) (by omega)
          have h8 : r.drop (min r.length 64) = r.drop 64 := by
            rcases Nat.lt_or_ge r.length 64 with h | h
            · rw [show min r.length 64 = r.length by omega, List.drop_length, List.drop_eq_nil_of_le (by omega)]
            · rw [show min r.length 64 = 64 by omega]
          rw [h8] at h9
          exact h9, hd.write _ _, hwr, by dsimp only; rw [List.length_drop]; omega, by dsimp only; rw [List.length_drop]; omega⟩, by dsimp only; rw [List.length_drop]; omega⟩
        case e1 => repeat (first | exact Env.Le.nil _ | refine Env.Le.cons rfl ?_)
        case h1 => repeat (first | exact Sub.heap_nil _ | exact Sub.refl _ | refine Sub.heap_cons (Take.none _) ?_ | refine Sub.heap_cons (by repeat (first | exact Take.head _ _ | apply Take.tail)) ?_)
    · replace hc42 := of_decide_eq_false hc42
      try dsimp only at hc42
      have hr0 : r = [] := List.eq_nil_of_length_eq_zero (by omega)
      subst hr0
      rw [wrO_nil] at hwr
      have hwy2 := hwy (by rw [hwr])
      rw [hwr] at hwy2
      refine CW.exit ?_
      refine NW.then_exit ?_
      refine NW.then_exit ?_
      refine NW.block_exit ?_
      refine NW.then_ ?_
      refine CW.seq ?_
      refine CW.region ?_
      refine LW.move rfl rfl ?_
      refine LW.nilPtr rfl rfl ?_
      refine LW.fieldAddr _ rfl (fun _ => FactsWal2.fa81_0 _ _ _) rfl ?_
      refine LW.load rfl (by repeat (first | exact Take.head _ _ | apply Take.tail)) rfl FactsWal2.one27 rfl ?_
      refine LW.call (dev_Flush W B p bn bw bl n d hd) Tryd.func53 rfl FactsWal2.fname53 ⟨rfl, trivial⟩ (by repeat (first | exact Take.head _ _ | apply Take.tail)) rfl ?_
      rintro _ _ ⟨rfl, rfl⟩
      refine LW.assign rfl rfl ?_
      refine LW.nil ?_
      refine NW.then_ ?_
      refine CW.ret ?_
      refine NW.ret1 rfl rfl ⟨_, ⟨by rw [hwy2], by rw [hwy2]⟩, ?_⟩
      exact Sub.app (by repeat (first | exact Take.head _ _ | apply Take.tail)) (Sub.take (by repeat (first | exact Take.head _ _ | apply Take.tail)) (Sub.one (by repeat (first | exact Take.head _ _ | apply Take.tail))))
end
end Go.Proofs.YtpnhonhjheahhaaDoor
