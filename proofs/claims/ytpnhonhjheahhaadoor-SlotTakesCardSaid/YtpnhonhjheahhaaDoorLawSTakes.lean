/-
  SlotTakes, walked.
-/
import Derived.Test.YtpnhonhjheahhaaDoorHelp5
import Derived.Test.YtpnhonhjheahhaaDoorRangeX
namespace Go.Proofs.YtpnhonhjheahhaaDoor
open Go.RowKit
namespace FactsLawSTakes
theorem fname21 : (Tryd.f21.name == "runtime.NumGoroutine") = false := by kernel_rfl
theorem fname23 : (Tryd.f23.name == "runtime.NumGoroutine") = false := by kernel_rfl
theorem fname29 : (Tryd.f29.name == "runtime.NumGoroutine") = false := by kernel_rfl
theorem fname32 : (Tryd.f32.name == "runtime.NumGoroutine") = false := by kernel_rfl
theorem fname35 : (Tryd.f35.name == "runtime.NumGoroutine") = false := by kernel_rfl
theorem fname39 : (Tryd.f39.name == "runtime.NumGoroutine") = false := by kernel_rfl
theorem fname40 : (Tryd.f40.name == "runtime.NumGoroutine") = false := by kernel_rfl
theorem info2 : (Tryd.prog.info? 2).map (fun i => (i.zero, i.size, i.bytes)) = some (some (.int .i64 0), 1, 8) := by kernel_rfl
theorem info5 : (Tryd.prog.info? 5).map (fun i => (i.zero, i.size, i.bytes)) = some (some (.int .u8 0), 1, 1) := by kernel_rfl
theorem ixs31 : (Tryd.prog.info? 5).map (·.size) = some 1 := by kernel_rfl
theorem ixs58 : (Tryd.prog.info? 3).map (·.size) = some 1 := by kernel_rfl
theorem one3 : oneB Tryd.prog 3 = true := by kernel_rfl
theorem sz5 : (Tryd.prog.info? 5).map (·.size) = some 1 := by kernel_rfl
end FactsLawSTakes
def fillK (x : UInt8) (k : Nat) : List UInt8 := List.replicate k x ++ List.replicate (64 - k) 0
theorem fillK_len (x : UInt8) (k : Nat) (h : k ≤ 64) : (fillK x k).length = 64 := by simp [fillK]; omega
theorem fillK_set (x : UInt8) (k : Nat) (h : k < 64) : ((fillK x k).map u8v).set k (u8v x) = (fillK x (k + 1)).map u8v := by
  rw [← List.map_set, fillK, fillK, List.set_append_right _ _ (by simp), List.length_replicate, Nat.sub_self, show 64 - k = (64 - (k + 1)) + 1 by omega, List.replicate_succ, List.set_cons_zero, List.replicate_succ', List.append_assoc]
  rfl
theorem put_N {n : Nat} {d : DevS} (hd : d.Ok n) {i : Nat} {b : List UInt8} (hb : b.length = 64) (hi : i < n) (hu : d.down = false) (j : Nat) : (d.put i b).burn.N j = if i = j then b else d.N j := by
  have he : d.err n (i : Int) 64 = 0 := by unfold DevS.err; rw [hu]; simp [isB, hi]
  have := write_N hd hb hi he j
  unfold DevS.write at this
  rw [hb, if_pos he, Int.toNat_natCast] at this
  exact this
theorem put_V {d : DevS} {i : Nat} {b : List UInt8} : (d.put i b).burn.V = d.V := by rw [burn_V]; rfl
theorem put_up {d : DevS} (h : Up d) (i : Nat) (b : List UInt8) : Up (d.put i b).burn := by
  unfold DevS.burn
  rw [if_neg (by simp [DevS.put, h.2])]
  exact h
/-- The numbers of sectors that hold these bytes. -/
def HasB (d : DevS) (b : List UInt8) (k : Int) : Prop := ∃ j : Nat, k = (j : Int) ∧ 2 ≤ j ∧ j < 64 ∧ d.N j = b
section
variable (W : World) (B : Nat)
set_option maxHeartbeats 4000000 in
theorem law_SlotTakes (h0 : 0 < B) (hg : W.cell? ⟨0, 0, none⟩ = some (rty 110)) (A : Option Addr) (cp : Nat) (at' : List Int) (hat : Src W B [] A (at'.map i64v)) (x : UInt8) :
    Spec Tryd.prog W B 8 [.slice A at'.length cp, .int .u8 (x.toNat : Int)] [] (fun v post => v = .bool true ∧ post = []) := by
  have hr0 := Rest.zero (n := 64) (by omega) (by omega)
  have hs0 := zero_slot 64 (by omega)
  refine Spec.enter ([]) Tryd.func8 rfl Tryd.ntmps8 rfl (by first | rfl | simp) (fun w0 => ?_)
  refine CW.seq ?_
  refine CW.region ?_
  refine LW.assign rfl rfl ?_
  refine LW.nil ?_
  refine NW.then_ ?_
  refine CW.seq ?_
  refine CW.region ?_
  refine LW.call (law_begun4 W B h0 hg) Tryd.func21 rfl FactsLawSTakes.fname21 trivial (Take.none _) rfl ?_
  rintro _ _ ⟨rfl, rfl⟩
  refine LW.assign rfl rfl ?_
  refine LW.nil ?_
  refine NW.then_ ?_
  refine CW.seq ?_
  refine CW.seq ?_
  refine CW.region ?_
  refine LW.move rfl rfl ?_
  refine LW.not (false) rfl (rfl) rfl ?_
  refine LW.nil ?_
  refine NW.then_ ?_
  refine CW.cond_false rfl ?_
  refine CW.skip ?_
  refine NW.then_ ?_
  refine CW.seq ?_
  refine CW.region ?_
  refine LW.call (dev_New W B 64 (by omega) (by omega)) Tryd.func23 rfl FactsLawSTakes.fname23 ⟨rfl, trivial⟩ (Take.none _) rfl ?_
  rintro _ _ ⟨p, bn, bw, bl, rfl, rfl⟩
  refine LW.assign rfl rfl ?_
  refine LW.nil ?_
  refine NW.then_ ?_
  refine CW.seq ?_
  generalize DevS.zero 64 = d0 at hr0 hs0 ⊢
  refine CW.region ?_
  refine LW.move rfl rfl ?_
  refine LW.buildSlice (vs := [_]) ⟨rfl, trivial⟩ rfl (by intro v hv; simp at hv; subst hv; rfl) Tryd.underlying47 FactsLawSTakes.info2 rfl (by decide) (by decide) rfl ?_
  intro bs24
  refine LW.call (slot_Make_ok W B p bn bw bl 64 d0 hr0.ok hr0.up (hold_slot hr0.flat (by decide) hs0) (by decide) [1] (by intro n hn; simp at hn; subst hn; exact ⟨by decide, by decide⟩) (by decide) [cr bs24 2 [.int .i64 1]] (some ⟨bs24, 0, none⟩) 1 (Src.row (fun j v hj => by rw [Nat.zero_add]; exact hj))) Tryd.func32 rfl FactsLawSTakes.fname32 ⟨rfl, rfl, trivial⟩ (Take.both (by repeat (first | exact Take.head _ _ | apply Take.tail)) (by repeat (first | exact Take.head _ _ | apply Take.tail))) rfl ?_
  rintro _ _ ⟨q, d1, rfl, hr1, hs1, _, rfl⟩; refine LW.split2 (LW.split2p ?_)
  refine LW.move rfl rfl ?_
  refine LW.extract rfl rfl rfl ?_
  refine LW.extract rfl rfl rfl ?_
  refine LW.assign rfl rfl ?_
  refine LW.assign rfl rfl ?_
  refine LW.nil ?_
  refine NW.then_ ?_
  refine CW.seq ?_
  refine CW.seq ?_
  refine CW.region ?_
  refine LW.move rfl rfl ?_
  refine LW.neq false rfl rfl (bne_eq_false_iff_eq.2 (by omega)) rfl ?_
  refine LW.nil ?_
  refine NW.then_ ?_
  refine CW.cond_false rfl ?_
  refine CW.skip ?_
  refine NW.then_ ?_
  refine CW.seq ?_
  refine CW.region ?_
  refine LW.make (64) (64) ((fillK x 0).map u8v) rfl rfl (by first | rfl | omega) (by first | rfl | omega) Tryd.underlying31 FactsLawSTakes.info5 (by omega) (by omega) (by omega) (by rw [zeros_row']; rfl) rfl ?_
  intro bm30
  refine LW.assign rfl rfl ?_
  refine LW.nil ?_
  refine NW.then_ ?_
  refine CW.seq ?_
  refine CW.seq ?_
  refine CW.region ?_
  refine LW.move rfl rfl ?_
  refine LW.lenSlice rfl Tryd.underlying31 rfl ?_
  refine LW.move rfl rfl ?_
  refine LW.nil ?_
  refine NW.then_ ?_
  refine CW.block ?_
  refine CW.loop (fun k : Nat => [(33, .int .i64 (k : Int)), (32, .int .i64 64), (9, .slice (some ⟨bm30, 0, none⟩) 64 64), (7, .pointer (some ⟨q, 0, none⟩)), (6, .pointer (some ⟨p, 0, none⟩)), (0, .slice A at'.length cp), (1, .int .u8 (x.toNat : Int))]) (fun k => [[cr bm30 5 ((fillK x k).map u8v)], [slC q p (0 + 1) false], devC p bn bw bl 64 d1]) (fun k => k ≤ 64) (fun k => 64 - k) 0 ?st10_j ?st10_e ?st10_h ?st10_r
  case st10_j => exact Nat.zero_le _
  case st10_e => repeat (first | exact Env.Le.nil _ | refine Env.Le.cons rfl ?_)
  case st10_h => repeat (first | exact Sub.heap_nil _ | exact Sub.refl _ | refine Sub.heap_cons (Take.none _) ?_ | refine Sub.heap_cons (by repeat (first | exact Take.head _ _ | apply Take.tail)) ?_)
  case st10_r =>
    intro k hk
    try dsimp only
    refine CW.seq ?_
    refine CW.region ?_
    refine LW.lss (decide ((k : Int) < 64)) rfl rfl (rfl) rfl ?_
    refine LW.nil ?_
    refine NW.then_ ?_
    refine CW.seq ?_
    refine CW.cond rfl (fun hc34 => ?_) (fun hc34 => ?_)
    · replace hc34 := of_decide_eq_true hc34
      try dsimp only at hc34
      have hkn : k < 64 := by omega
      refine CW.skip ?_
      refine NW.then_ ?_
      refine CW.seq ?_
      refine CW.block ?_
      refine CW.seq ?_
      refine CW.region ?_
      refine LW.move rfl rfl ?_
      refine LW.assign rfl rfl ?_
      refine LW.nil ?_
      refine NW.then_ ?_
      refine CW.region ?_
      refine LW.move rfl rfl ?_
      refine LW.move rfl rfl ?_
      refine LW.move rfl rfl ?_
      refine LW.indexAddr (k) rfl rfl Tryd.underlying31 FactsLawSTakes.ixs31 (by omega) (by omega) (by simp) rfl ?_
      refine LW.store rfl rfl (by repeat (first | exact Take.head _ _ | apply Take.tail)) (by rw [List.length_map, fillK_len x k hk]; omega) FactsLawSTakes.sz5 (rfl) ?_
      rw [show Value.int .u8 (x.toNat : Int) = u8v x from rfl, fillK_set x k hkn]
      refine LW.nil ?_
      refine NW.block ?_
      refine NW.then_ ?_
      refine CW.region ?_
      refine LW.add ((k + 1 : Int)) rfl rfl (by first | rfl | exact wr64 (by omega) (by omega) (by omega)) rfl ?_
      refine LW.move rfl rfl ?_
      refine LW.nil ?_
      refine NW.meet (k + 1) ?j1 ?e1 ?h1
      case j1 => exact ⟨by omega, by omega⟩
      case e1 => repeat (first | exact Env.Le.nil _ | refine Env.Le.cons rfl ?_)
      case h1 => repeat (first | exact Sub.heap_nil _ | exact Sub.refl _ | refine Sub.heap_cons (Take.none _) ?_ | refine Sub.heap_cons (by repeat (first | exact Take.head _ _ | apply Take.tail)) ?_)
    · replace hc34 := of_decide_eq_false hc34
      try dsimp only at hc34
      obtain rfl : k = 64 := by omega
      have hfl := fillK_len x 64 (Nat.le_refl _)
      generalize fillK x 64 = fb at hfl ⊢
      refine CW.exit ?_
      refine NW.then_exit ?_
      refine NW.then_exit ?_
      refine NW.block_exit ?_
      refine NW.then_ ?_
      refine CW.seq ?_
      refine CW.region ?_
      refine LW.makeMapK (HasB d1 fb) rfl ?_
      intro vm chm hom
      refine LW.assign rfl rfl ?_
      refine LW.nil ?_
      refine NW.then_ ?_
      refine CW.seq ?_
      refine CW.seq ?_
      refine CW.region ?_
      refine LW.assign rfl rfl ?_
      refine LW.nil ?_
      refine NW.then_ ?_
      refine CW.block ?_
      refine CW.loop (fun st : Nat × DevS × List Row => [(12, .int .i64 (st.1 : Int)), (11, vm), (9, .slice (some ⟨bm30, 0, none⟩) 64 64), (7, .pointer (some ⟨q, 0, none⟩)), (6, .pointer (some ⟨p, 0, none⟩)), (0, .slice A at'.length cp)]) (fun st => [[cr bm30 5 (fb.map u8v)], [slC q p (0 + 1) false], devC p bn bw bl 64 st.2.1, st.2.2]) (fun st => st.1 ≤ 20 ∧ st.2.1.Ok 64 ∧ Up st.2.1 ∧ Hold 64 st.2.1 (SlotAt · (0 + 1) [1]) ∧ OwnK vm (HasB st.2.1 fb) st.2.2) (fun st => 20 - st.1) (0, d1, chm) ?st16_j ?st16_e ?st16_h ?st16_r
      case st16_j => exact ⟨Nat.zero_le _, hr1.ok, hr1.up, hold_slot hr1.flat (by omega) hs1, hom⟩
      case st16_e => repeat (first | exact Env.Le.nil _ | refine Env.Le.cons rfl ?_)
      case st16_h => repeat (first | exact Sub.heap_nil _ | exact Sub.refl _ | refine Sub.heap_cons (Take.none _) ?_ | refine Sub.heap_cons (by repeat (first | exact Take.head _ _ | apply Take.tail)) ?_)
      case st16_r =>
        clear hom; rintro ⟨i, d, ch⟩ ⟨hi, ho, hup, hh, hom⟩; dsimp only at hi ho hup hh hom
        try dsimp only
        refine CW.seq ?_
        refine CW.seq ?_
        refine CW.region ?_
        refine LW.move rfl rfl ?_
        refine LW.move rfl rfl ?_
        refine LW.lenSlice rfl Tryd.underlying58 rfl ?_
        by_cases hil : i < at'.length
        · refine LW.lss true rfl rfl (decide_eq_true (by omega)) rfl ?_
          refine LW.move rfl rfl ?_
          refine LW.on 46 rfl rfl ?_
          refine LW.move rfl rfl ?_
          by_cases hi20 : i < 20
          · refine LW.on 46 rfl rfl ?_
            refine LW.lss true rfl rfl (decide_eq_true (by omega)) rfl ?_
            refine LW.pickT rfl rfl rfl ?_
            refine LW.nil ?_
            refine NW.then_ ?_
            refine CW.cond_true rfl ?_
            refine CW.skip ?_
            refine NW.then_ ?_
            refine CW.seq ?_
            refine CW.block ?_
            refine CW.seq ?_
            obtain ⟨a, rfl⟩ : ∃ a, A = some a := hat.some (by rw [List.length_map]; omega)
            have hgi : (at'.map i64v)[i]? = some (.int .i64 (at'.getD i 0)) := by simp [List.getD, List.getElem?_eq_getElem hil, i64v]
            obtain ⟨k, hk, hk2, hu1, hu2⟩ := mod_pos (at'.getD i 0) 62 (by decide) (by decide)
            generalize at'.getD i 0 = y at hgi hk hu1 hu2
            refine CW.region ?_
            refine LW.move rfl rfl ?_
            refine LW.move rfl rfl ?_
            refine LW.indexAt rfl rfl Tryd.underlying58 FactsLawSTakes.ixs58 (by omega) (by omega) rfl ?_
            refine LW.loadRd (v := .int .i64 y) rfl (hat.rd (Take.none _)) (by simpa using hgi) FactsLawSTakes.one3 rfl ?_
            refine LW.rem (y.tmod 62) rfl rfl (by decide) (rfl) rfl ?_
            refine LW.add (y.tmod 62 + 62) rfl rfl (by first | rfl | exact wr64 (by omega) (by omega) (by omega)) rfl ?_
            refine LW.rem ((k : Int)) rfl rfl (by decide) (hk) rfl ?_
            refine LW.add (((2 + k : Nat) : Int)) rfl rfl (by first | rfl | exact wr64 (by omega) (by omega) (by omega)) rfl ?_
            refine LW.assign rfl rfl ?_
            refine LW.nil ?_
            refine NW.then_ ?_
            refine CW.seq ?_
            refine CW.seq ?_
            generalize hkm : 2 + k = m
            refine CW.region ?_
            refine LW.move rfl rfl ?_
            refine LW.move rfl rfl ?_
            refine LW.move rfl rfl ?_
            refine LW.call (dev_Write_ok W B p bn bw bl 64 d ho m (by omega) hup.1 [cr bm30 5 (fb.map u8v)] (some ⟨bm30, 0, none⟩) 64 fb hfl (srcText W B _ _)) Tryd.func39 rfl FactsLawSTakes.fname39 ⟨rfl, rfl, rfl, trivial⟩ (Take.both (by repeat (first | exact Take.head _ _ | apply Take.tail)) (by repeat (first | exact Take.head _ _ | apply Take.tail))) rfl ?_
            rintro _ _ ⟨rfl, rfl⟩; refine LW.split2 ?_
            refine LW.neq false rfl rfl (bne_eq_false_iff_eq.2 (by omega)) rfl ?_
            refine LW.nil ?_
            refine NW.then_ ?_
            refine CW.cond_false rfl ?_
            refine CW.skip ?_
            refine NW.then_ ?_
            have hput := put_N (b := fb) ho hfl (show m < 64 by omega) hup.1
            have hom2 := OwnK.mono (T := HasB (d.put m fb).burn fb) hom (fun k hk => by obtain ⟨j, h1, h2, h3, h4⟩ := hk; exact ⟨j, h1, h2, h3, by rw [hput]; split; rfl; exact h4⟩)
            refine CW.region ?_
            refine LW.move rfl rfl ?_
            refine LW.move rfl rfl ?_
            refine LW.mapSetK rfl rfl rfl hom2 ⟨m, rfl, by omega, by omega, by rw [hput, if_pos rfl]⟩ (by repeat (first | exact Take.head _ _ | apply Take.tail)) Tryd.underlying59 Tryd.underlying3 ?_
            intro ch' hom'
            refine LW.nil ?_
            refine NW.block ?_
            refine NW.then_ ?_
            refine CW.region ?_
            refine LW.move rfl rfl ?_
            refine LW.add ((i + 1 : Int)) rfl rfl (by first | rfl | exact wr64 (by omega) (by omega) (by omega)) rfl ?_
            refine LW.assign rfl rfl ?_
            refine LW.nil ?_
            refine NW.meet ((i + 1, (d.put m fb).burn, ch')) ?j2 ?e2 ?h2
            case j2 => exact ⟨⟨by dsimp only; omega, (ho.put hfl).burn hup.1, put_up hup _ _, fun X hX => (hh (fun j => if j < 2 then X j else d.N j) (fun j hj => by
              by_cases h2 : j < 2
              · simp only [h2, if_true]
                have h3 := hX j hj
                rw [hput, if_neg (by omega), put_V] at h3
                exact h3
              · simp only [h2, if_false]; exact .inl trivial)).congr rfl rfl, hom'⟩, by dsimp only; omega⟩
            case e2 => repeat (first | exact Env.Le.nil _ | refine Env.Le.cons rfl ?_)
            case h2 => repeat (first | exact Sub.heap_nil _ | exact Sub.refl _ | refine Sub.heap_cons (Take.none _) ?_ | refine Sub.heap_cons (by repeat (first | exact Take.head _ _ | apply Take.tail)) ?_)
          · refine LW.on 46 rfl rfl ?_
            refine LW.lss false rfl rfl (decide_eq_false (by omega)) rfl ?_
            refine LW.pickT rfl rfl rfl ?_
            refine LW.nil ?_
            refine NW.then_ ?_
            refine CW.cond_false rfl ?_
            refine CW.exit ?_
            refine NW.then_exit ?_
            refine NW.then_exit ?_
            refine NW.block_exit ?_
            refine NW.then_ ?_
            refine CW.seq ?_
            refine CW.seq ?_
            refine CW.region ?_
            refine LW.move rfl rfl ?_
            refine LW.buildSlice (vs := [_]) ⟨rfl, trivial⟩ rfl (by intro v hv; simp at hv; subst hv; rfl) Tryd.underlying47 FactsLawSTakes.info2 rfl (by decide) (by decide) rfl ?_
            intro bs68
            refine LW.call (slot_Set_ok W B q p bn bw bl 64 d ho hup hh (by decide) [2] (by intro n hn; simp at hn; subst hn; exact ⟨by decide, by decide⟩) (by decide) [cr bs68 2 [.int .i64 2]] (some ⟨bs68, 0, none⟩) 1 (Src.row (fun j v hj => by rw [Nat.zero_add]; exact hj))) Tryd.func35 rfl FactsLawSTakes.fname35 ⟨rfl, rfl, trivial⟩ (Take.both (by repeat (first | exact Take.head _ _ | apply Take.tail)) (Take.both (by repeat (first | exact Take.head _ _ | apply Take.tail)) (by repeat (first | exact Take.head _ _ | apply Take.tail)))) rfl ?_
            rintro _ _ ⟨rfl, d5, hr5, hs5, hN5, rfl⟩; refine LW.split2 (LW.split2p ?_)
            refine LW.neq false rfl rfl (bne_eq_false_iff_eq.2 (by omega)) rfl ?_
            refine LW.nil ?_
            refine NW.then_ ?_
            refine CW.cond_false rfl ?_
            refine CW.skip ?_
            refine NW.then_ ?_
            refine CW.seq ?_
            refine CW.region ?_
            refine LW.move rfl rfl ?_
            refine LW.call (dev_Crash W B p bn bw bl 64 d5 hr5.ok [] none 0 [] Src.nil) Tryd.func29 rfl FactsLawSTakes.fname29 ⟨rfl, rfl, trivial⟩ (Take.both (Take.none _) (by repeat (first | exact Take.head _ _ | apply Take.tail))) rfl ?_
            rintro _ _ ⟨cp', cn, cw, cl, rfl, rfl⟩; refine LW.split2 (LW.split2p ?_)
            refine LW.assign rfl rfl ?_
            refine LW.nil ?_
            refine NW.then_ ?_
            refine CW.seq ?_
            refine CW.seq ?_
            have hrc := Rest.crash hr5.ok []
            have hNc : ∀ j, 2 ≤ j → j < 64 → (d5.crash 64 []).N j = d.N j := fun j h1 h2 => by
              rw [(crash_mix hr5.ok []).flat hr5.flat h2]; exact hN5 j h1
            generalize d5.crash 64 [] = dc at hrc hNc ⊢
            obtain ⟨bm, es, clock, rfl, rfl, hst, hes⟩ := hom
            refine CW.region ?_
            refine LW.move rfl rfl ?_
            refine LW.rangeM rfl (by repeat (first | exact Take.head _ _ | apply Take.tail)) Tryd.underlying59 rfl ?_
            intro rr
            refine LW.nil ?_
            refine NW.then_ ?_
            refine CW.block ?_
            refine CW.loop (fun st : Array Nat × Nat => [(74, .pointer (some ⟨rr, 0, none⟩)), (14, .pointer (some ⟨cp', 0, none⟩)), (9, .slice (some ⟨bm30, 0, none⟩) 64 64)]) (fun st => [[⟨bm, .map es clock⟩], [⟨rr, .mapIter (some bm) clock st.1 st.2⟩], devC cp' cn cw cl 64 dc, [cr bm30 5 (fb.map u8v)]]) (fun st => clock ≤ st.2) (fun st => (leftOf es st.1).size) (#[], clock) ?st26_j ?st26_e ?st26_h ?st26_r
            case st26_j => exact Nat.le_refl _
            case st26_e => repeat (first | exact Env.Le.nil _ | refine Env.Le.cons rfl ?_)
            case st26_h => repeat (first | exact Sub.heap_nil _ | exact Sub.refl _ | refine Sub.heap_cons (Take.none _) ?_ | refine Sub.heap_cons (by repeat (first | exact Take.head _ _ | apply Take.tail)) ?_)
            case st26_r =>
              rintro ⟨seen, c0⟩ hc0; dsimp only at hc0
              try dsimp only
              refine CW.seq ?_
              refine CW.region ?_
              refine LW.nextM rfl (by repeat (first | exact Take.head _ _ | apply Take.tail)) (by repeat (first | exact Take.head _ _ | apply Take.tail)) hst.1 hc0 rfl ?_
              intro v75 h75 hR75
              rcases hR75 with ⟨_, rfl, rfl⟩ | ⟨z, hz, rfl, rfl⟩
              · refine LW.extract rfl rfl rfl ?_
                refine LW.nil ?_
                refine NW.then_ ?_
                refine CW.seq ?_
                refine CW.cond_false rfl ?_
                refine CW.exit ?_
                refine NW.then_exit ?_
                refine NW.then_exit ?_
                refine NW.block_exit ?_
                refine NW.then_ ?_
                refine CW.seq ?_
                refine CW.region ?_
                refine LW.assign rfl rfl ?_
                refine LW.nil ?_
                refine NW.then_ ?_
                refine CW.ret ?_
                refine NW.ret1 rfl rfl ⟨_, ⟨rfl, rfl⟩, ?_⟩
                exact Sub.nil _
              · refine LW.extract rfl rfl rfl ?_
                refine LW.nil ?_
                refine NW.then_ ?_
                refine CW.seq ?_
                refine CW.cond_true rfl ?_
                refine CW.skip ?_
                refine NW.then_ ?_
                refine CW.block ?_
                refine CW.seq ?_
                refine CW.region ?_
                refine LW.entryM rfl (by repeat (first | exact Take.head _ _ | apply Take.tail)) (by repeat (first | exact Take.head _ _ | apply Take.tail)) (left_mem hz) hst.2.1 rfl ?_
                obtain ⟨j', ⟨j, rfl, hj2, hj64, hjN⟩, hzk⟩ := hes z (left_mem hz)
                rw [hzk]
                refine LW.extract rfl rfl rfl ?_
                refine LW.assign rfl rfl ?_
                refine LW.nil ?_
                refine NW.then_ ?_
                refine CW.seq ?_
                refine CW.region ?_
                refine LW.move rfl rfl ?_
                refine LW.move rfl rfl ?_
                refine LW.call (dev_Read W B cp' cn cw cl 64 dc hrc.ok j hj64) Tryd.func40 rfl FactsLawSTakes.fname40 ⟨rfl, rfl, trivial⟩ (by repeat (first | exact Take.head _ _ | apply Take.tail)) rfl ?_
                rintro _ _ ⟨qr, rfl, rfl⟩; rw [show dc.now.getD j [] = fb from (hNc j hj2 hj64).trans hjN]; refine LW.split1 ?_
                refine LW.move rfl rfl ?_
                refine LW.extract rfl rfl rfl ?_
                refine LW.extract rfl rfl rfl ?_
                refine LW.assign rfl rfl ?_
                refine LW.assign rfl rfl ?_
                refine LW.nil ?_
                refine NW.then_ ?_
                refine CW.seq ?_
                refine CW.region ?_
                refine LW.move rfl rfl ?_
                refine LW.neq false rfl rfl (bne_eq_false_iff_eq.2 (by omega)) rfl ?_
                refine LW.move rfl rfl ?_
                refine LW.on 87 rfl rfl ?_
                refine LW.move rfl rfl ?_
                refine LW.on 87 rfl rfl ?_
                refine LW.bytesStr (fb) rfl Tryd.underlying31 Tryd.underlying5 Tryd.underlying9 ((show Src W B [cr qr 92 (fb.map u8v)] (some ⟨qr, 0, none⟩) (fb.map u8v) from Src.row (fun j v hj => by rw [Nat.zero_add]; exact hj)).rd (by repeat (first | exact Take.head _ _ | apply Take.tail))) (hfl.symm) rfl ?_
                refine LW.on 87 rfl rfl ?_
                refine LW.move rfl rfl ?_
                refine LW.on 87 rfl rfl ?_
                refine LW.bytesStr (fb) rfl Tryd.underlying31 Tryd.underlying5 Tryd.underlying9 ((srcText W B bm30 fb).rd (by repeat (first | exact Take.head _ _ | apply Take.tail))) (hfl.symm) rfl ?_
                refine LW.on 87 rfl rfl ?_
                refine LW.strNeq (false) rfl rfl Tryd.underlying9 (decide_eq_false (fun h => h rfl)) rfl ?_
                refine LW.pickF rfl rfl rfl ?_
                refine LW.nil ?_
                refine NW.then_ ?_
                refine CW.cond_false rfl ?_
                refine CW.skip ?_
                refine NW.block ?_
                refine NW.meet ((seen.push z.born, clock)) ?j3 ?e3 ?h3
                case j3 => exact ⟨Nat.le_refl _, left_less hz⟩
                case e3 => repeat (first | exact Env.Le.nil _ | refine Env.Le.cons rfl ?_)
                case h3 => repeat (first | exact Sub.heap_nil _ | exact Sub.refl _ | refine Sub.heap_cons (Take.none _) ?_ | refine Sub.heap_cons (by repeat (first | exact Take.head _ _ | apply Take.tail)) ?_)
        · refine LW.lss false rfl rfl (decide_eq_false (by omega)) rfl ?_
          refine LW.move rfl rfl ?_
          refine LW.off 46 rfl rfl rfl rfl ?_
          refine LW.off 46 rfl rfl rfl rfl ?_
          refine LW.pickF rfl rfl rfl ?_
          refine LW.nil ?_
          refine NW.then_ ?_
          refine CW.cond_false rfl ?_
          refine CW.exit ?_
          refine NW.then_exit ?_
          refine NW.then_exit ?_
          refine NW.block_exit ?_
          refine NW.then_ ?_
          refine CW.seq ?_
          refine CW.seq ?_
          refine CW.region ?_
          refine LW.move rfl rfl ?_
          refine LW.buildSlice (vs := [_]) ⟨rfl, trivial⟩ rfl (by intro v hv; simp at hv; subst hv; rfl) Tryd.underlying47 FactsLawSTakes.info2 rfl (by decide) (by decide) rfl ?_
          intro bs68
          refine LW.call (slot_Set_ok W B q p bn bw bl 64 d ho hup hh (by decide) [2] (by intro n hn; simp at hn; subst hn; exact ⟨by decide, by decide⟩) (by decide) [cr bs68 2 [.int .i64 2]] (some ⟨bs68, 0, none⟩) 1 (Src.row (fun j v hj => by rw [Nat.zero_add]; exact hj))) Tryd.func35 rfl FactsLawSTakes.fname35 ⟨rfl, rfl, trivial⟩ (Take.both (by repeat (first | exact Take.head _ _ | apply Take.tail)) (Take.both (by repeat (first | exact Take.head _ _ | apply Take.tail)) (by repeat (first | exact Take.head _ _ | apply Take.tail)))) rfl ?_
          rintro _ _ ⟨rfl, d5, hr5, hs5, hN5, rfl⟩; refine LW.split2 (LW.split2p ?_)
          refine LW.neq false rfl rfl (bne_eq_false_iff_eq.2 (by omega)) rfl ?_
          refine LW.nil ?_
          refine NW.then_ ?_
          refine CW.cond_false rfl ?_
          refine CW.skip ?_
          refine NW.then_ ?_
          refine CW.seq ?_
          refine CW.region ?_
          refine LW.move rfl rfl ?_
          refine LW.call (dev_Crash W B p bn bw bl 64 d5 hr5.ok [] none 0 [] Src.nil) Tryd.func29 rfl FactsLawSTakes.fname29 ⟨rfl, rfl, trivial⟩ (Take.both (Take.none _) (by repeat (first | exact Take.head _ _ | apply Take.tail))) rfl ?_
          rintro _ _ ⟨cp', cn, cw, cl, rfl, rfl⟩; refine LW.split2 (LW.split2p ?_)
          refine LW.assign rfl rfl ?_
          refine LW.nil ?_
          refine NW.then_ ?_
          refine CW.seq ?_
          refine CW.seq ?_
          have hrc := Rest.crash hr5.ok []
          have hNc : ∀ j, 2 ≤ j → j < 64 → (d5.crash 64 []).N j = d.N j := fun j h1 h2 => by
            rw [(crash_mix hr5.ok []).flat hr5.flat h2]; exact hN5 j h1
          generalize d5.crash 64 [] = dc at hrc hNc ⊢
          obtain ⟨bm, es, clock, rfl, rfl, hst, hes⟩ := hom
          refine CW.region ?_
          refine LW.move rfl rfl ?_
          refine LW.rangeM rfl (by repeat (first | exact Take.head _ _ | apply Take.tail)) Tryd.underlying59 rfl ?_
          intro rr
          refine LW.nil ?_
          refine NW.then_ ?_
          refine CW.block ?_
          refine CW.loop (fun st : Array Nat × Nat => [(74, .pointer (some ⟨rr, 0, none⟩)), (14, .pointer (some ⟨cp', 0, none⟩)), (9, .slice (some ⟨bm30, 0, none⟩) 64 64)]) (fun st => [[⟨bm, .map es clock⟩], [⟨rr, .mapIter (some bm) clock st.1 st.2⟩], devC cp' cn cw cl 64 dc, [cr bm30 5 (fb.map u8v)]]) (fun st => clock ≤ st.2) (fun st => (leftOf es st.1).size) (#[], clock) ?st26_j ?st26_e ?st26_h ?st26_r
          case st26_j => exact Nat.le_refl _
          case st26_e => repeat (first | exact Env.Le.nil _ | refine Env.Le.cons rfl ?_)
          case st26_h => repeat (first | exact Sub.heap_nil _ | exact Sub.refl _ | refine Sub.heap_cons (Take.none _) ?_ | refine Sub.heap_cons (by repeat (first | exact Take.head _ _ | apply Take.tail)) ?_)
          case st26_r =>
            rintro ⟨seen, c0⟩ hc0; dsimp only at hc0
            try dsimp only
            refine CW.seq ?_
            refine CW.region ?_
            refine LW.nextM rfl (by repeat (first | exact Take.head _ _ | apply Take.tail)) (by repeat (first | exact Take.head _ _ | apply Take.tail)) hst.1 hc0 rfl ?_
            intro v75 h75 hR75
            rcases hR75 with ⟨_, rfl, rfl⟩ | ⟨z, hz, rfl, rfl⟩
            · refine LW.extract rfl rfl rfl ?_
              refine LW.nil ?_
              refine NW.then_ ?_
              refine CW.seq ?_
              refine CW.cond_false rfl ?_
              refine CW.exit ?_
              refine NW.then_exit ?_
              refine NW.then_exit ?_
              refine NW.block_exit ?_
              refine NW.then_ ?_
              refine CW.seq ?_
              refine CW.region ?_
              refine LW.assign rfl rfl ?_
              refine LW.nil ?_
              refine NW.then_ ?_
              refine CW.ret ?_
              refine NW.ret1 rfl rfl ⟨_, ⟨rfl, rfl⟩, ?_⟩
              exact Sub.nil _
            · refine LW.extract rfl rfl rfl ?_
              refine LW.nil ?_
              refine NW.then_ ?_
              refine CW.seq ?_
              refine CW.cond_true rfl ?_
              refine CW.skip ?_
              refine NW.then_ ?_
              refine CW.block ?_
              refine CW.seq ?_
              refine CW.region ?_
              refine LW.entryM rfl (by repeat (first | exact Take.head _ _ | apply Take.tail)) (by repeat (first | exact Take.head _ _ | apply Take.tail)) (left_mem hz) hst.2.1 rfl ?_
              obtain ⟨j', ⟨j, rfl, hj2, hj64, hjN⟩, hzk⟩ := hes z (left_mem hz)
              rw [hzk]
              refine LW.extract rfl rfl rfl ?_
              refine LW.assign rfl rfl ?_
              refine LW.nil ?_
              refine NW.then_ ?_
              refine CW.seq ?_
              refine CW.region ?_
              refine LW.move rfl rfl ?_
              refine LW.move rfl rfl ?_
              refine LW.call (dev_Read W B cp' cn cw cl 64 dc hrc.ok j hj64) Tryd.func40 rfl FactsLawSTakes.fname40 ⟨rfl, rfl, trivial⟩ (by repeat (first | exact Take.head _ _ | apply Take.tail)) rfl ?_
              rintro _ _ ⟨qr, rfl, rfl⟩; rw [show dc.now.getD j [] = fb from (hNc j hj2 hj64).trans hjN]; refine LW.split1 ?_
              refine LW.move rfl rfl ?_
              refine LW.extract rfl rfl rfl ?_
              refine LW.extract rfl rfl rfl ?_
              refine LW.assign rfl rfl ?_
              refine LW.assign rfl rfl ?_
              refine LW.nil ?_
              refine NW.then_ ?_
              refine CW.seq ?_
              refine CW.region ?_
              refine LW.move rfl rfl ?_
              refine LW.neq false rfl rfl (bne_eq_false_iff_eq.2 (by omega)) rfl ?_
              refine LW.move rfl rfl ?_
              refine LW.on 87 rfl rfl ?_
              refine LW.move rfl rfl ?_
              refine LW.on 87 rfl rfl ?_
              refine LW.bytesStr (fb) rfl Tryd.underlying31 Tryd.underlying5 Tryd.underlying9 ((show Src W B [cr qr 92 (fb.map u8v)] (some ⟨qr, 0, none⟩) (fb.map u8v) from Src.row (fun j v hj => by rw [Nat.zero_add]; exact hj)).rd (by repeat (first | exact Take.head _ _ | apply Take.tail))) (hfl.symm) rfl ?_
              refine LW.on 87 rfl rfl ?_
              refine LW.move rfl rfl ?_
              refine LW.on 87 rfl rfl ?_
              refine LW.bytesStr (fb) rfl Tryd.underlying31 Tryd.underlying5 Tryd.underlying9 ((srcText W B bm30 fb).rd (by repeat (first | exact Take.head _ _ | apply Take.tail))) (hfl.symm) rfl ?_
              refine LW.on 87 rfl rfl ?_
              refine LW.strNeq (false) rfl rfl Tryd.underlying9 (decide_eq_false (fun h => h rfl)) rfl ?_
              refine LW.pickF rfl rfl rfl ?_
              refine LW.nil ?_
              refine NW.then_ ?_
              refine CW.cond_false rfl ?_
              refine CW.skip ?_
              refine NW.block ?_
              refine NW.meet ((seen.push z.born, clock)) ?j4 ?e4 ?h4
              case j4 => exact ⟨Nat.le_refl _, left_less hz⟩
              case e4 => repeat (first | exact Env.Le.nil _ | refine Env.Le.cons rfl ?_)
              case h4 => repeat (first | exact Sub.heap_nil _ | exact Sub.refl _ | refine Sub.heap_cons (Take.none _) ?_ | refine Sub.heap_cons (by repeat (first | exact Take.head _ _ | apply Take.tail)) ?_)
end
end Go.Proofs.YtpnhonhjheahhaaDoor
