/-
  LogOwn, walked.
-/
import Derived.Test.YtpnhonhjheahhaaDoorOwn4
namespace Go.Proofs.YtpnhonhjheahhaaDoor
open Go.RowKit
namespace FactsLawLogOwn
theorem fname21 : (Tryd.f21.name == "runtime.NumGoroutine") = false := by kernel_rfl
theorem fname22 : (Tryd.f22.name == "runtime.NumGoroutine") = false := by kernel_rfl
theorem fname23 : (Tryd.f23.name == "runtime.NumGoroutine") = false := by kernel_rfl
theorem fname25 : (Tryd.f25.name == "runtime.NumGoroutine") = false := by kernel_rfl
theorem fname26 : (Tryd.f26.name == "runtime.NumGoroutine") = false := by kernel_rfl
theorem fname28 : (Tryd.f28.name == "runtime.NumGoroutine") = false := by kernel_rfl
theorem fname29 : (Tryd.f29.name == "runtime.NumGoroutine") = false := by kernel_rfl
theorem info5 : (Tryd.prog.info? 5).map (fun i => (i.zero, i.size, i.bytes)) = some (some (.int .u8 0), 1, 1) := by kernel_rfl
theorem ixs31 : (Tryd.prog.info? 5).map (·.size) = some 1 := by kernel_rfl
theorem ixs36 : (Tryd.prog.info? 31).map (·.size) = some 1 := by kernel_rfl
theorem mixed : Tryd.prog.follows .mixedOrders = true := by kernel_rfl
theorem one31 : oneB Tryd.prog 31 = true := by kernel_rfl
theorem one5 : oneB Tryd.prog 5 = true := by kernel_rfl
theorem sz5 : (Tryd.prog.info? 5).map (·.size) = some 1 := by kernel_rfl
end FactsLawLogOwn
section
variable (W : World) (B : Nat)
set_option maxHeartbeats 4000000 in
theorem law_LogOwn (h0 : 0 < B) (hg : W.cell? ⟨0, 0, none⟩ = some (rty 110)) (z1 : Int) (x : UInt8) :
    Spec Tryd.prog W B 9 [.int .i64 z1, .int .u8 (x.toNat : Int)] [] (fun v post => v = .bool true ∧ post = []) := by
  obtain ⟨k, hk, hk2, hu1, hu2⟩ := mod_pos z1 100 (by decide) (by decide)
  have hr0 := Rest.zero (n := 64) (by omega) (by omega)
  have hs0 := zero_slot 64 (by omega)
  refine Spec.enter ([]) Tryd.func9 rfl Tryd.ntmps9 rfl (by first | rfl | simp) (fun w0 => ?_)
  refine CW.seq ?_
  refine CW.region ?_
  refine LW.assign rfl rfl ?_
  refine LW.nil ?_
  refine NW.then_ ?_
  refine CW.seq ?_
  refine CW.region ?_
  refine LW.call (law_begun4 W B h0 hg) Tryd.func21 rfl FactsLawLogOwn.fname21 trivial (Take.none _) rfl ?_
  rintro _ _ ⟨rfl, rfl⟩
  refine LW.assign rfl rfl ?_
  refine LW.nil ?_
  refine NW.then_ ?_
  refine CW.seq ?_
  refine CW.seq ?_
  refine CW.region ?_
  refine LW.move rfl rfl ?_
  refine LW.not (false) rfl (rfl) rfl ?_
  refine LW.nil ?_
  refine NW.then_ ?_
  refine CW.cond_false rfl ?_
  refine CW.skip ?_
  refine NW.then_ ?_
  refine CW.seq ?_
  have hrn : ringN 64 = 1920 := rfl
  refine CW.region ?_
  refine LW.call (dev_New W B 64 (by omega) (by omega)) Tryd.func23 rfl FactsLawLogOwn.fname23 ⟨rfl, trivial⟩ (Take.none _) rfl ?_
  rintro _ _ ⟨p, bn, bw, bl, rfl, rfl⟩
  refine LW.assign rfl rfl ?_
  refine LW.nil ?_
  refine NW.then_ ?_
  refine CW.seq ?_
  generalize DevS.zero 64 = d0 at hr0 hs0 ⊢
  refine CW.region ?_
  refine LW.move rfl rfl ?_
  refine LW.call (wal_Make_ok W B p bn bw bl 64 d0 hr0.ok hr0.up (hold_slot hr0.flat (by omega) hs0) (by decide)) Tryd.func22 rfl FactsLawLogOwn.fname22 ⟨rfl, trivial⟩ (by repeat (first | exact Take.head _ _ | apply Take.tail)) rfl ?_
  rintro _ _ ⟨l, q, d1, rfl, hr1, hf1, hl1, _, rfl⟩; refine LW.split2 ?_
  refine LW.move rfl rfl ?_
  refine LW.extract rfl rfl rfl ?_
  refine LW.extract rfl rfl rfl ?_
  refine LW.assign rfl rfl ?_
  refine LW.assign rfl rfl ?_
  refine LW.nil ?_
  refine NW.then_ ?_
  refine CW.seq ?_
  refine CW.seq ?_
  refine CW.region ?_
  refine LW.move rfl rfl ?_
  refine LW.neq false rfl rfl (bne_eq_false_iff_eq.2 (by omega)) rfl ?_
  refine LW.nil ?_
  refine NW.then_ ?_
  refine CW.cond_false rfl ?_
  refine CW.skip ?_
  refine NW.then_ ?_
  refine CW.seq ?_
  refine CW.region ?_
  refine LW.move rfl rfl ?_
  refine LW.rem (z1.tmod 100) rfl rfl (by decide) (rfl) rfl ?_
  refine LW.add (z1.tmod 100 + 100) rfl rfl (by first | rfl | exact wr64 (by omega) (by omega) (by omega)) rfl ?_
  refine LW.rem ((k : Int)) rfl rfl (by decide) (hk) rfl ?_
  refine LW.add (((1 + k : Nat) : Int)) rfl rfl (by first | rfl | exact wr64 (by omega) (by omega) (by omega)) rfl ?_
  refine LW.move rfl rfl ?_
  refine LW.call (law_text' W B (1 + k) (by omega) x) Tryd.func26 rfl FactsLawLogOwn.fname26 ⟨rfl, rfl, trivial⟩ (Take.none _) rfl ?_
  rintro _ _ ⟨b1, rfl, rfl⟩
  refine LW.assign rfl rfl ?_
  refine LW.nil ?_
  refine NW.then_ ?_
  refine CW.seq ?_
  have htz := textB_len (1 + k) x
  generalize textB (1 + k) x = t at htz ⊢
  refine CW.region ?_
  refine LW.move rfl rfl ?_
  refine LW.append (t.map u8v) rfl rfl Tryd.underlying31 Tryd.underlying31 (.inr ⟨_, rfl⟩) FactsLawLogOwn.info5 rfl (OwnB.nil) (Take.none _) (fun _ => lenOf_slice _ _ _ _) (first_rd ((srcText W B b1 t).rd (by repeat (first | exact Take.head _ _ | apply Take.tail))) (by simp) (fun h => (by cases h))) (by simp) (u8vs_one _) (by simp only [List.length_nil]; omega) (by simp only [List.length_nil]; omega) rfl ?_
  intro v1 ch1 ho1; replace ho1 := OwnB.app ho1 rfl rfl; rw [List.nil_append] at ho1
  refine LW.assign rfl rfl ?_
  refine LW.nil ?_
  refine NW.then_ ?_
  refine CW.seq ?_
  refine CW.seq ?_
  obtain ⟨b2, cap2, sl2, rfl, rfl⟩ := ho1.rowOf (by omega)
  refine CW.region ?_
  refine LW.move rfl rfl ?_
  refine LW.move rfl rfl ?_
  refine LW.call (wal_Append_ok W B l q p bn bw bl 64 d1 hr1 hf1 hl1 (by decide) t ⟨by omega, by omega⟩ (by rw [used_nil]; omega) [cr b2 5 (t.map u8v ++ sl2)] (some ⟨b2, 0, none⟩) cap2 (srcPart b2 t sl2)) Tryd.func25 rfl FactsLawLogOwn.fname25 ⟨rfl, rfl, trivial⟩ (Take.both (by repeat (first | exact Take.head _ _ | apply Take.tail)) (Take.both (by repeat (first | exact Take.head _ _ | apply Take.tail)) (by repeat (first | exact Take.head _ _ | apply Take.tail)))) rfl ?_
  rintro _ _ ⟨rfl, d2, hr2, hf2, hl2, _, rfl⟩; refine LW.split2 (LW.split2p ?_)
  refine LW.neq false rfl rfl (bne_eq_false_iff_eq.2 (by omega)) rfl ?_
  refine LW.nil ?_
  refine NW.then_ ?_
  refine CW.cond_false rfl ?_
  refine CW.skip ?_
  refine NW.then_ ?_
  refine CW.seq ?_
  have hg0 : (t.map u8v)[0]? = some (.int .u8 ((t.getD 0 0).toNat : Int)) := by simp [List.getD, List.getElem?_eq_getElem (show 0 < t.length by omega), u8v]
  refine CW.region ?_
  refine LW.move rfl rfl ?_
  refine LW.indexAt rfl rfl Tryd.underlying31 FactsLawLogOwn.ixs31 (by omega) (by omega) rfl ?_
  refine LW.loadRd (v := .int .u8 ((t.getD 0 0).toNat : Int)) rfl ((srcPart b2 t sl2).rd (by repeat (first | exact Take.head _ _ | apply Take.tail))) (hg0) FactsLawLogOwn.one5 rfl ?_
  refine LW.add (IntKind.u8.wrap (((t.getD 0 0).toNat : Int) + 1)) rfl rfl (rfl) rfl ?_
  refine LW.indexAt rfl rfl Tryd.underlying31 FactsLawLogOwn.ixs31 (by omega) (by omega) rfl ?_
  refine LW.store rfl rfl (by repeat (first | exact Take.head _ _ | apply Take.tail)) (by rw [List.length_append, List.length_map]; omega) FactsLawLogOwn.sz5 (rfl) ?_
  refine LW.nil ?_
  refine NW.then_ ?_
  refine CW.seq ?_
  refine CW.region ?_
  refine LW.move rfl rfl ?_
  refine LW.call (wal_Open_own_ok W B p bn bw bl 64 d2 hr2.ok hf2 hl2) Tryd.func28 rfl FactsLawLogOwn.fname28 ⟨rfl, trivial⟩ (by repeat (first | exact Take.head _ _ | apply Take.tail)) rfl ?_
  rintro _ _ ⟨l5, q5, v5, vs5, ch5, ar5, rfl, ho5, hr5, rfl⟩; obtain ⟨A5, cp5, rfl, hA5, hc5⟩ := OwnS.val ho5; obtain ⟨v50, rfl, ho50⟩ := RecsOwn.one hr5; obtain ⟨b5, cap5, sl5, rfl, rfl⟩ := ho50.rowOf (by omega); obtain ⟨ad5, rfl⟩ : ∃ a, A5 = some a := (OwnS.src (W := W) (B := B) ho5).some (by simp); refine LW.split2 (LW.split2p (LW.split3p ?_))
  refine LW.move rfl rfl ?_
  refine LW.extract rfl rfl rfl ?_
  refine LW.extract rfl rfl rfl ?_
  refine LW.extract rfl rfl rfl ?_
  refine LW.assign rfl rfl ?_
  refine LW.assign rfl rfl ?_
  refine LW.assign rfl rfl ?_
  refine LW.nil ?_
  refine NW.then_ ?_
  refine CW.seq ?_
  refine CW.seq ?_
  refine CW.quiet FactsLawLogOwn.mixed (by kernel_rfl) ?_
  refine QW.step (Yl.move rfl) rfl ?_
  refine QW.step (Yl.neq false rfl rfl (bne_eq_false_iff_eq.2 (by omega))) rfl ?_
  refine QW.step (Yl.move rfl) rfl ?_
  refine QW.on 51 rfl rfl ?_
  refine QW.step (Yl.move rfl) rfl ?_
  refine QW.on 51 rfl rfl ?_
  refine QW.step (Yl.lenSlice rfl Tryd.underlying36) rfl ?_
  refine QW.on 51 rfl rfl ?_
  refine QW.step (Yl.neq false rfl rfl (rfl)) rfl ?_
  refine QW.step (Yl.pickF rfl rfl) rfl ?_
  refine QW.step (Yl.move rfl) rfl ?_
  refine QW.on 56 rfl rfl ?_
  refine QW.step (Yl.move rfl) rfl ?_
  refine QW.on 56 rfl rfl ?_
  refine QW.step (Yl.indexAt rfl rfl Tryd.underlying36 FactsLawLogOwn.ixs36 (by decide) (Int.zero_lt_one)) rfl ?_
  refine QW.on 56 rfl rfl ?_
  refine QW.step (Yl.loadRd (v := .slice (some ⟨b5, 0, none⟩) t.length cap5) rfl ((OwnS.src ho5).rd (by repeat (first | exact Take.head _ _ | apply Take.tail))) (rfl) FactsLawLogOwn.one31) rfl ?_
  refine QW.on 56 rfl rfl ?_
  refine QW.step (Yl.bytesRd (t) rfl Tryd.underlying31 Tryd.underlying5 Tryd.underlying9 ((srcPart b5 t sl5).rd (by repeat (first | exact Take.head _ _ | apply Take.tail))) (rfl)) rfl ?_
  refine QW.on 56 rfl rfl ?_
  refine QW.step (Yl.move rfl) rfl ?_
  refine QW.on 56 rfl rfl ?_
  refine QW.step (Yl.bytesRd (t) rfl Tryd.underlying31 Tryd.underlying5 Tryd.underlying9 ((srcText W B b1 t).rd (by repeat (first | exact Take.head _ _ | apply Take.tail))) (rfl)) rfl ?_
  refine QW.on 56 rfl rfl ?_
  refine QW.step (Yl.strNeq (false) rfl rfl Tryd.underlying9 (decide_eq_false (fun h => h rfl))) rfl ?_
  refine QW.step (Yl.pickF rfl rfl) rfl ?_
  refine QW.nil ?_
  refine NW.then_ ?_
  refine CW.cond_false rfl ?_
  refine CW.skip ?_
  refine NW.then_ ?_
  refine CW.seq ?_
  refine CW.region ?_
  refine LW.move rfl rfl ?_
  refine LW.indexAt rfl rfl Tryd.underlying36 FactsLawLogOwn.ixs36 (by decide) (Int.zero_lt_one) rfl ?_
  refine LW.loadRd (v := .slice (some ⟨b5, 0, none⟩) t.length cap5) rfl ((OwnS.src ho5).rd (by repeat (first | exact Take.head _ _ | apply Take.tail))) (rfl) FactsLawLogOwn.one31 rfl ?_
  refine LW.indexAt rfl rfl Tryd.underlying31 FactsLawLogOwn.ixs31 (by omega) (by omega) rfl ?_
  refine LW.loadRd (v := .int .u8 ((t.getD 0 0).toNat : Int)) rfl ((srcPart b5 t sl5).rd (by repeat (first | exact Take.head _ _ | apply Take.tail))) (hg0) FactsLawLogOwn.one5 rfl ?_
  refine LW.add (IntKind.u8.wrap (((t.getD 0 0).toNat : Int) + 1)) rfl rfl (rfl) rfl ?_
  refine LW.indexAt rfl rfl Tryd.underlying31 FactsLawLogOwn.ixs31 (by omega) (by omega) rfl ?_
  refine LW.store rfl rfl (by repeat (first | exact Take.head _ _ | apply Take.tail)) (by rw [List.length_append, List.length_map]; omega) FactsLawLogOwn.sz5 (rfl) ?_
  refine LW.nil ?_
  refine NW.then_ ?_
  refine CW.seq ?_
  refine CW.region ?_
  refine LW.move rfl rfl ?_
  refine LW.call (dev_Crash W B p bn bw bl 64 d2 hr2.ok [] none 0 [] Src.nil) Tryd.func29 rfl FactsLawLogOwn.fname29 ⟨rfl, rfl, trivial⟩ (Take.both (Take.none _) (by repeat (first | exact Take.head _ _ | apply Take.tail))) rfl ?_
  rintro _ _ ⟨ep, en, ew, el, rfl, rfl⟩; refine LW.split2 (LW.split2p ?_)
  refine LW.call (wal_Open_own_ok W B ep en ew el 64 (d2.crash 64 []) (hr2.ok.crash []) hf2 (crash_log hr2.ok hr2.flat hf2 hl2 [])) Tryd.func28 rfl FactsLawLogOwn.fname28 ⟨rfl, trivial⟩ (by repeat (first | exact Take.head _ _ | apply Take.tail)) rfl ?_
  rintro _ _ ⟨l7, q7, v7, vs7, ch7, ar7, rfl, ho7, hr7, rfl⟩; obtain ⟨A7, cp7, rfl, hA7, hc7⟩ := OwnS.val ho7; obtain ⟨v70, rfl, ho70⟩ := RecsOwn.one hr7; obtain ⟨b7, cap7, sl7, rfl, rfl⟩ := ho70.rowOf (by omega); obtain ⟨ad7, rfl⟩ : ∃ a, A7 = some a := (OwnS.src (W := W) (B := B) ho7).some (by simp); refine LW.split2 (LW.split2p (LW.split3p ?_))
  refine LW.move rfl rfl ?_
  refine LW.extract rfl rfl rfl ?_
  refine LW.extract rfl rfl rfl ?_
  refine LW.extract rfl rfl rfl ?_
  refine LW.assign rfl rfl ?_
  refine LW.assign rfl rfl ?_
  refine LW.nil ?_
  refine NW.then_ ?_
  refine CW.seq ?_
  refine CW.quiet FactsLawLogOwn.mixed (by kernel_rfl) ?_
  refine QW.step (Yl.move rfl) rfl ?_
  refine QW.step (Yl.eql true rfl rfl (beq_iff_eq.2 (by omega))) rfl ?_
  refine QW.step (Yl.move rfl) rfl ?_
  refine QW.on 81 rfl rfl ?_
  refine QW.step (Yl.move rfl) rfl ?_
  refine QW.on 81 rfl rfl ?_
  refine QW.step (Yl.lenSlice rfl Tryd.underlying36) rfl ?_
  refine QW.on 81 rfl rfl ?_
  refine QW.step (Yl.eql true rfl rfl (rfl)) rfl ?_
  refine QW.step (Yl.pickT rfl rfl) rfl ?_
  refine QW.step (Yl.move rfl) rfl ?_
  refine QW.on 86 rfl rfl ?_
  refine QW.step (Yl.move rfl) rfl ?_
  refine QW.on 86 rfl rfl ?_
  refine QW.step (Yl.indexAt rfl rfl Tryd.underlying36 FactsLawLogOwn.ixs36 (by decide) (Int.zero_lt_one)) rfl ?_
  refine QW.on 86 rfl rfl ?_
  refine QW.step (Yl.loadRd (v := .slice (some ⟨b7, 0, none⟩) t.length cap7) rfl ((OwnS.src ho7).rd (by repeat (first | exact Take.head _ _ | apply Take.tail))) (rfl) FactsLawLogOwn.one31) rfl ?_
  refine QW.on 86 rfl rfl ?_
  refine QW.step (Yl.bytesRd (t) rfl Tryd.underlying31 Tryd.underlying5 Tryd.underlying9 ((srcPart b7 t sl7).rd (by repeat (first | exact Take.head _ _ | apply Take.tail))) (rfl)) rfl ?_
  refine QW.on 86 rfl rfl ?_
  refine QW.step (Yl.move rfl) rfl ?_
  refine QW.on 86 rfl rfl ?_
  refine QW.step (Yl.bytesRd (t) rfl Tryd.underlying31 Tryd.underlying5 Tryd.underlying9 ((srcText W B b1 t).rd (by repeat (first | exact Take.head _ _ | apply Take.tail))) (rfl)) rfl ?_
  refine QW.on 86 rfl rfl ?_
  refine QW.step (Yl.strEql (true) rfl rfl Tryd.underlying9 (decide_eq_true rfl)) rfl ?_
  refine QW.step (Yl.pickT rfl rfl) rfl ?_
  refine QW.step (Yl.assign rfl) rfl ?_
  refine QW.nil ?_
  refine NW.then_ ?_
  refine CW.ret ?_
  refine NW.ret1 rfl rfl ⟨_, ⟨rfl, rfl⟩, ?_⟩
  exact Sub.nil _
end
end Go.Proofs.YtpnhonhjheahhaaDoor
