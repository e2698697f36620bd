/-
  SlotAll, walked.
-/
import Derived.Test.YtpnhonhjheahhaaDoorFuz4
namespace Go.Proofs.YtpnhonhjheahhaaDoor
open Go.RowKit
namespace FactsLawSAll
theorem fname21 : (Tryd.f21.name == "runtime.NumGoroutine") = false := by kernel_rfl
theorem fname23 : (Tryd.f23.name == "runtime.NumGoroutine") = false := by kernel_rfl
theorem fname29 : (Tryd.f29.name == "runtime.NumGoroutine") = false := by kernel_rfl
theorem fname32 : (Tryd.f32.name == "runtime.NumGoroutine") = false := by kernel_rfl
theorem fname33 : (Tryd.f33.name == "runtime.NumGoroutine") = false := by kernel_rfl
theorem fname35 : (Tryd.f35.name == "runtime.NumGoroutine") = false := by kernel_rfl
theorem fname38 : (Tryd.f38.name == "runtime.NumGoroutine") = false := by kernel_rfl
theorem fname41 : (Tryd.f41.name == "runtime.NumGoroutine") = false := by kernel_rfl
theorem info2 : (Tryd.prog.info? 2).map (fun i => (i.zero, i.size, i.bytes)) = some (some (.int .i64 0), 1, 8) := by kernel_rfl
theorem ixs66 : (Tryd.prog.info? 47).map (·.size) = some 1 := by kernel_rfl
theorem mixed : Tryd.prog.follows .mixedOrders = true := by kernel_rfl
theorem one47 : oneB Tryd.prog 47 = true := by kernel_rfl
theorem szt2 : (Tryd.prog.info? 2).map (·.size) = some 1 := by kernel_rfl
end FactsLawSAll
/-- A slice of numbers in old memory: where it lies, its room, its numbers. -/
def slV (x : Option Addr × Nat × List Int) : Value := .slice x.1 x.2.2.length x.2.1
structure SlotASt where
  i : Nat
  sr : Int
  d : DevS
  w : List Int
  A : Option Addr
  cp : Nat
  ch : List Row
theorem tdivk_near (z : Int) (k : Int) (hk : 0 < k) : z.tdiv k = z / k ∨ z.tdiv k = z / k + 1 := by
  rw [Int.tdiv_eq_ediv, Int.sign_eq_one_of_pos hk]
  split
  · exact .inl (Int.add_zero _)
  · exact .inr rfl
theorem tdiv12 {z : Int} (h : I64 z) : IntKind.wrap .i64 (z.tdiv 12) = z.tdiv 12 := by
  have h1 := h.1
  have h2 := h.2
  have h3 := tdivk_near z 12 (by decide)
  exact wr64 rfl (by omega) (by omega)
section
variable (W : World) (B : Nat)
set_option maxHeartbeats 4000000 in
theorem law_SlotAll (h0 : 0 < B) (hg : W.cell? ⟨0, 0, none⟩ = some (rty 110)) (A : Option Addr) (cp : Nat) (sets : List (Option Addr × Nat × List Int)) (hat : Src W B [] A (sets.map slV)) (hel : ∀ x ∈ sets, x.2.2.length ≤ x.2.1 ∧ Src W B [] x.1 (x.2.2.map i64v) ∧ ∀ n ∈ x.2.2, I64 n) (z : Int) (hz : I64 z) (A2 : Option Addr) (cp2 : Nat) (keep : List Bool) (hsrc : Src W B [] A2 (keep.map .bool)) :
    Spec Tryd.prog W B 12 [.slice A sets.length cp, .int .i64 z, .slice A2 keep.length cp2] [] (fun v post => v = .bool true ∧ post = []) := by
  obtain ⟨m, hm, hm2, hu1, hu2⟩ := mod_pos z 12 (by decide) (by decide)
  obtain ⟨f, hf, hf2, hv1, hv2⟩ := mod_pos (z.tdiv 12) 5 (by decide) (by decide)
  have hr0 := Rest.zero (n := 64) (by omega) (by omega)
  have hs0 := zero_slot 64 (by omega)
  refine Spec.enter ([]) Tryd.func12 rfl Tryd.ntmps12 rfl (by first | rfl | simp) (fun w0 => ?_)
  refine CW.seq ?_
  refine CW.region ?_
  refine LW.assign rfl rfl ?_
  refine LW.nil ?_
  refine NW.then_ ?_
  refine CW.seq ?_
  refine CW.region ?_
  refine LW.call (law_begun4 W B h0 hg) Tryd.func21 rfl FactsLawSAll.fname21 trivial (Take.none _) rfl ?_
  rintro _ _ ⟨rfl, rfl⟩
  refine LW.assign rfl rfl ?_
  refine LW.nil ?_
  refine NW.then_ ?_
  refine CW.seq ?_
  refine CW.seq ?_
  refine CW.region ?_
  refine LW.move rfl rfl ?_
  refine LW.not (false) rfl (rfl) rfl ?_
  refine LW.nil ?_
  refine NW.then_ ?_
  refine CW.cond_false rfl ?_
  refine CW.skip ?_
  refine NW.then_ ?_
  refine CW.seq ?_
  refine CW.region ?_
  refine LW.call (dev_New W B 64 (by omega) (by omega)) Tryd.func23 rfl FactsLawSAll.fname23 ⟨rfl, trivial⟩ (Take.none _) rfl ?_
  rintro _ _ ⟨p, bn, bw, bl, rfl, rfl⟩
  refine LW.assign rfl rfl ?_
  refine LW.nil ?_
  refine NW.then_ ?_
  refine CW.seq ?_
  generalize DevS.zero 64 = d0 at hr0 hs0 ⊢
  refine CW.region ?_
  refine LW.move rfl rfl ?_
  refine LW.buildSlice (vs := [_]) ⟨rfl, trivial⟩ rfl (by intro v hv; simp at hv; subst hv; rfl) Tryd.underlying47 FactsLawSAll.info2 rfl (by decide) (by decide) rfl ?_
  intro bs24
  refine LW.call (slot_Make_ok W B p bn bw bl 64 d0 hr0.ok hr0.up (hold_slot hr0.flat (by decide) hs0) (by decide) [1] (by intro n hn; simp at hn; subst hn; exact ⟨by decide, by decide⟩) (by decide) [cr bs24 2 [.int .i64 1]] (some ⟨bs24, 0, none⟩) 1 (Src.row (fun j v hj => by rw [Nat.zero_add]; exact hj))) Tryd.func32 rfl FactsLawSAll.fname32 ⟨rfl, rfl, trivial⟩ (Take.both (by repeat (first | exact Take.head _ _ | apply Take.tail)) (by repeat (first | exact Take.head _ _ | apply Take.tail))) rfl ?_
  rintro _ _ ⟨q, d1, rfl, hr1, hs1, _, rfl⟩; refine LW.split2 (LW.split2p ?_)
  refine LW.move rfl rfl ?_
  refine LW.extract rfl rfl rfl ?_
  refine LW.extract rfl rfl rfl ?_
  refine LW.assign rfl rfl ?_
  refine LW.assign rfl rfl ?_
  refine LW.nil ?_
  refine NW.then_ ?_
  refine CW.seq ?_
  refine CW.seq ?_
  refine CW.region ?_
  refine LW.move rfl rfl ?_
  refine LW.neq false rfl rfl (bne_eq_false_iff_eq.2 (by omega)) rfl ?_
  refine LW.move rfl rfl ?_
  refine LW.on 30 rfl rfl ?_
  refine LW.move rfl rfl ?_
  refine LW.on 30 rfl rfl ?_
  refine LW.ptrNil _ rfl Tryd.underlying44 rfl rfl ?_
  refine LW.pickF rfl rfl rfl ?_
  refine LW.nil ?_
  refine NW.then_ ?_
  refine CW.cond_false rfl ?_
  refine CW.skip ?_
  refine NW.then_ ?_
  refine CW.seq ?_
  refine CW.region ?_
  refine LW.buildSlice (vs := [_]) ⟨rfl, trivial⟩ rfl (by intro v hv; simp at hv; subst hv; rfl) Tryd.underlying47 FactsLawSAll.info2 rfl (by decide) (by decide) rfl ?_
  intro bs34
  refine LW.assign rfl rfl ?_
  refine LW.nil ?_
  refine NW.then_ ?_
  refine CW.seq ?_
  refine CW.seq ?_
  refine CW.region ?_
  refine LW.assign rfl rfl ?_
  refine LW.nil ?_
  refine NW.then_ ?_
  refine CW.block ?_
  refine CW.loop (fun st : SlotASt => [(12, .int .i64 (st.i : Int)), (11, .slice st.A st.w.length st.cp), (9, .pointer (some ⟨q, 0, none⟩)), (8, .pointer (some ⟨p, 0, none⟩)), (0, .slice A sets.length cp), (1, .int .i64 z), (2, .slice A2 keep.length cp2)]) (fun st => [st.ch, [slC q p st.sr false], devC p bn bw bl 64 st.d]) (fun st => st.i ≤ 12 ∧ 1 ≤ st.sr ∧ st.sr ≤ 1 + (st.i : Int) ∧ st.d.Ok 64 ∧ Flat st.d ∧ SlotAt st.d.N st.sr st.w ∧ st.w.length ≤ 4 ∧ Src W B st.ch st.A (st.w.map i64v)) (fun st => 12 - st.i) ⟨0, 0 + 1, d1, [1], some ⟨bs34, 0, none⟩, 1, [cr bs34 2 [.int .i64 1]]⟩ ?st10_j ?st10_e ?st10_h ?st10_r
  case st10_j => exact ⟨Nat.zero_le _, by dsimp only; omega, by dsimp only; omega, hr1.ok, hr1.flat, hs1, by simp, Src.row (fun j v hj => by rw [Nat.zero_add]; exact hj)⟩
  case st10_e => repeat (first | exact Env.Le.nil _ | refine Env.Le.cons rfl ?_)
  case st10_h => repeat (first | exact Sub.heap_nil _ | exact Sub.refl _ | refine Sub.heap_cons (Take.none _) ?_ | refine Sub.heap_cons (by repeat (first | exact Take.head _ _ | apply Take.tail)) ?_)
  case st10_r =>
    clear hr1 hs1 hr0 hs0; rintro ⟨i, sr, d, w, C, cc, ch⟩ ⟨hi, hsr1, hsr, ho, hfl, hs, hw4, hC⟩; dsimp only at hi hsr1 hsr ho hfl hs hw4 hC
    try dsimp only
    refine CW.seq ?_
    refine CW.seq ?_
    refine CW.region ?_
    refine LW.move rfl rfl ?_
    refine LW.move rfl rfl ?_
    refine LW.lenSlice rfl Tryd.underlying66 rfl ?_
    by_cases hil : i < sets.length
    · refine LW.lss true rfl rfl (decide_eq_true (by omega)) rfl ?_
      refine LW.move rfl rfl ?_
      refine LW.on 39 rfl rfl ?_
      refine LW.move rfl rfl ?_
      by_cases hi12 : i < 12
      · refine LW.on 39 rfl rfl ?_
        refine LW.lss true rfl rfl (decide_eq_true (by omega)) rfl ?_
        refine LW.pickT rfl rfl rfl ?_
        refine LW.nil ?_
        refine NW.then_ ?_
        refine CW.cond_true rfl ?_
        refine CW.skip ?_
        refine NW.then_ ?_
        refine CW.seq ?_
        refine CW.block ?_
        refine CW.seq ?_
        obtain ⟨a0, rfl⟩ : ∃ a, A = some a := hat.some (by rw [List.length_map]; omega)
        obtain ⟨⟨X, cx, xs⟩, hxe⟩ : ∃ x, sets[i]? = some x := ⟨_, List.getElem?_eq_getElem hil⟩
        have hgi : (sets.map slV)[i]? = some (.slice X xs.length cx) := by rw [List.getElem?_map, hxe]; rfl
        obtain ⟨hcx, hX, hXI⟩ := hel _ (List.mem_of_getElem? hxe)
        dsimp only at hcx hX hXI
        have hmx := take_min' xs 6
        have hsx := hX.sub 6
        rw [← List.map_take] at hsx
        have hlx : (xs.take 6).length ≤ xs.length := by rw [List.length_take]; omega
        have hIx : ∀ n ∈ xs.take 6, I64 n := fun n hn => hXI n (List.mem_of_mem_take hn)
        generalize xs.take 6 = lx at hmx hsx hlx hIx
        refine CW.drawH [] FactsLawSAll.mixed ?_
        refine AW.takes [0, 1, 2, 3, 4, 5, 6, 7, 8, 9, 10, 11] 0 (by kernel_rfl) (by kernel_rfl) rfl (by repeat (first | exact PO.body | refine PO.then_ ?_ | refine PO.block ?_ | refine PO.noGoto ?_)) (fun _ s => Held.of s (by repeat (first | exact Sub.nil _ | refine Sub.cons1 (by repeat (first | exact Take.head _ _ | apply Take.tail)) ?_))) ?_
        refine TW.take rfl (Yl.move rfl) rfl ?_
        refine TW.take rfl (Yl.move rfl) rfl ?_
        refine TW.take rfl (Yl.indexAt rfl rfl Tryd.underlying66 FactsLawSAll.ixs66 (by omega) (by omega)) rfl ?_
        refine TW.take rfl (Yl.loadSrc (v := .slice X xs.length cx) rfl (hat) (by simpa using hgi) FactsLawSAll.one47) rfl ?_
        refine TW.take rfl (Yl.move rfl) rfl ?_
        refine TW.take rfl (Yl.move rfl) rfl ?_
        refine TW.take rfl (Yl.indexAt rfl rfl Tryd.underlying66 FactsLawSAll.ixs66 (by omega) (by omega)) rfl ?_
        refine TW.take rfl (Yl.loadSrc (v := .slice X xs.length cx) rfl (hat) (by simpa using hgi) FactsLawSAll.one47) rfl ?_
        refine TW.take rfl (Yl.lenSlice rfl Tryd.underlying47) rfl ?_
        refine TW.take rfl (Yl.min2 ((lx.length : Int)) rfl rfl (hmx)) rfl ?_
        refine TW.take rfl (Yl.cutTo (lx.length) rfl rfl Tryd.underlying47 FactsLawSAll.szt2 (hlx) (hcx)) rfl ?_
        refine TW.take rfl (Yl.assign rfl) rfl ?_
        refine TW.nil ?_
        refine AW.done (by kernel_rfl) ?_
        refine NW.then_ ?_
        refine CW.seq ?_
        refine CW.seq ?_
        refine CW.region ?_
        refine LW.move rfl rfl ?_
        refine LW.lenSlice rfl Tryd.underlying47 rfl ?_
        by_cases h4 : 4 < lx.length
        · refine LW.gtr true rfl rfl (decide_eq_true (by omega)) rfl ?_
          refine LW.nil ?_
          refine NW.then_ ?_
          refine CW.cond_true rfl ?_
          refine CW.seq ?_
          refine CW.seq ?_
          refine CW.region ?_
          refine LW.move rfl rfl ?_
          refine LW.move rfl rfl ?_
          refine LW.call (slot_Set_form W B q X lx.length cx h4) Tryd.func35 rfl FactsLawSAll.fname35 ⟨rfl, rfl, trivial⟩ (Take.none _) rfl ?_
          rintro _ _ ⟨rfl, rfl⟩
          refine LW.neq false rfl rfl (bne_eq_false_iff_eq.2 (by omega)) rfl ?_
          refine LW.nil ?_
          refine NW.then_ ?_
          refine CW.cond_false rfl ?_
          refine CW.skip ?_
          refine NW.then_ ?_
          refine CW.exit ?_
          refine NW.then_exit ?_
          refine NW.block_exit ?_
          refine NW.then_ ?_
          refine CW.region ?_
          refine LW.move rfl rfl ?_
          refine LW.add ((i + 1 : Int)) rfl rfl (by first | rfl | exact wr64 (by omega) (by omega) (by omega)) rfl ?_
          refine LW.assign rfl rfl ?_
          refine LW.nil ?_
          refine NW.meet (⟨i + 1, sr, d, w, C, cc, ch⟩) ?j1 ?e1 ?h1
          case j1 => exact ⟨⟨by dsimp only; omega, hsr1, by dsimp only; omega, ho, hfl, hs, hw4, hC⟩, by dsimp only; omega⟩
          case e1 => repeat (first | exact Env.Le.nil _ | refine Env.Le.cons rfl ?_)
          case h1 => repeat (first | exact Sub.heap_nil _ | exact Sub.refl _ | refine Sub.heap_cons (Take.none _) ?_ | refine Sub.heap_cons (by repeat (first | exact Take.head _ _ | apply Take.tail)) ?_)
        · refine LW.gtr false rfl rfl (decide_eq_false (by omega)) rfl ?_
          refine LW.nil ?_
          refine NW.then_ ?_
          refine CW.cond_false rfl ?_
          refine CW.skip ?_
          refine NW.then_ ?_
          refine CW.cut (fun d : DevS => [(13, .slice X lx.length cx), (12, .int .i64 (i : Int)), (11, .slice C w.length cc), (9, .pointer (some ⟨q, 0, none⟩)), (8, .pointer (some ⟨p, 0, none⟩)), (0, .slice (some a0) sets.length cp), (1, .int .i64 z), (2, .slice A2 keep.length cp2)]) (fun d => [ch, [slC q p sr false], devC p bn bw bl 64 d]) (fun d => d.Ok 64 ∧ Flat d ∧ SlotAt d.N sr w) ?cut18_1 ?cut18_2
          case cut18_1 =>
            refine CW.seq ?_
            refine CW.region ?_
            refine LW.move rfl rfl ?_
            refine LW.move rfl rfl ?_
            refine LW.rem (z.tmod 12) rfl rfl (by decide) (rfl) rfl ?_
            refine LW.add (z.tmod 12 + 12) rfl rfl (by first | rfl | exact wr64 (by omega) (by omega) (by omega)) rfl ?_
            refine LW.rem ((m : Int)) rfl rfl (by decide) (hm) rfl ?_
            by_cases him : i = m
            · refine LW.eql true rfl rfl (beq_iff_eq.2 (by omega)) rfl ?_
              refine LW.nil ?_
              refine NW.then_ ?_
              refine CW.cond_true rfl ?_
              refine CW.region ?_
              refine LW.move rfl rfl ?_
              refine LW.move rfl rfl ?_
              refine LW.quo (z.tdiv 12) rfl rfl (by decide) (tdiv12 hz) rfl ?_
              refine LW.rem ((z.tdiv 12).tmod 5) rfl rfl (by decide) (rfl) rfl ?_
              refine LW.add ((z.tdiv 12).tmod 5 + 5) rfl rfl (by first | rfl | exact wr64 (by omega) (by omega) (by omega)) rfl ?_
              refine LW.rem ((f : Int)) rfl rfl (by decide) (hf) rfl ?_
              refine LW.call (dev_Fuse W B p bn bw bl 64 d (f : Int)) Tryd.func41 rfl FactsLawSAll.fname41 ⟨rfl, rfl, trivial⟩ (by repeat (first | exact Take.head _ _ | apply Take.tail)) rfl ?_
              rintro _ _ ⟨rfl, rfl⟩
              refine LW.nil ?_
              refine NW.meet (d.blow (f : Int)) ?j2 ?e2 ?h2
              case j2 => exact ⟨ok_blow ho f (by omega), flat_blow hfl _, hs⟩
              case e2 => repeat (first | exact Env.Le.nil _ | refine Env.Le.cons rfl ?_)
              case h2 => repeat (first | exact Sub.heap_nil _ | exact Sub.refl _ | refine Sub.heap_cons (Take.none _) ?_ | refine Sub.heap_cons (by repeat (first | exact Take.head _ _ | apply Take.tail)) ?_)
            · refine LW.eql false rfl rfl (beq_eq_false_iff_ne.2 (by omega)) rfl ?_
              refine LW.nil ?_
              refine NW.then_ ?_
              refine CW.cond_false rfl ?_
              refine CW.skip ?_
              refine NW.meet (d) ?j3 ?e3 ?h3
              case j3 => exact ⟨ho, hfl, hs⟩
              case e3 => repeat (first | exact Env.Le.nil _ | refine Env.Le.cons rfl ?_)
              case h3 => repeat (first | exact Sub.heap_nil _ | exact Sub.refl _ | refine Sub.heap_cons (Take.none _) ?_ | refine Sub.heap_cons (by repeat (first | exact Take.head _ _ | apply Take.tail)) ?_)
          case cut18_2 =>
            clear ho hfl hs; rintro d ⟨ho, hfl, hs⟩
            try dsimp only
            refine CW.seq ?_
            refine CW.region ?_
            refine LW.move rfl rfl ?_
            refine LW.move rfl rfl ?_
            refine LW.call (slot_Set_fz W B q p bn bw bl 64 d ho (hold_slot hfl (by decide) hs) (by omega) lx hIx (by omega) [] X cx hsx) Tryd.func35 rfl FactsLawSAll.fname35 ⟨rfl, rfl, trivial⟩ (Take.both (Take.none _) (Take.both (by repeat (first | exact Take.head _ _ | apply Take.tail)) (by repeat (first | exact Take.head _ _ | apply Take.tail)))) rfl ?_
            rintro v3 post3 hR
            rcases hR with ⟨rfl, d1, ho1, hf1, hs1, rfl⟩ | ⟨rfl, d1, ho1, hd1, hx1, rfl⟩
            · refine LW.split2 (LW.split2p ?_)
              refine LW.assign rfl rfl ?_
              refine LW.nil ?_
              refine NW.then_ ?_
              refine CW.seq ?_
              refine CW.seq ?_
              refine CW.region ?_
              refine LW.move rfl rfl ?_
              refine LW.eql true rfl rfl (beq_iff_eq.2 (by omega)) rfl ?_
              refine LW.nil ?_
              refine NW.then_ ?_
              refine CW.cond_true rfl ?_
              refine CW.region ?_
              refine LW.move rfl rfl ?_
              refine LW.assign rfl rfl ?_
              refine LW.nil ?_
              refine NW.then_ ?_
              refine CW.seq ?_
              refine CW.region ?_
              refine LW.move rfl rfl ?_
              refine LW.move rfl rfl ?_
              refine LW.call (dev_Crash W B p bn bw bl 64 d1 ho1 [] A2 cp2 keep hsrc) Tryd.func29 rfl FactsLawSAll.fname29 ⟨rfl, rfl, trivial⟩ (Take.both (Take.none _) (by repeat (first | exact Take.head _ _ | apply Take.tail))) rfl ?_
              rintro _ _ ⟨cp', cn, cw, cl, rfl, rfl⟩; refine LW.split2 (LW.split2p ?_)
              refine LW.call (slot_Open_ok W B cp' cn cw cl 64 (d1.crash 64 keep) (ho1.crash keep) (crash_slot ho1 hf1 hs1 keep) (by omega)) Tryd.func33 rfl FactsLawSAll.fname33 ⟨rfl, trivial⟩ (by repeat (first | exact Take.head _ _ | apply Take.tail)) rfl ?_
              rintro _ _ ⟨q5, v5, ch5, rfl, ho5, rfl⟩; obtain ⟨A5, cp5, rfl, _, _⟩ := OwnS.val ho5; refine LW.split2 (LW.split2p ?_)
              refine LW.move rfl rfl ?_
              refine LW.extract rfl rfl rfl ?_
              refine LW.extract rfl rfl rfl ?_
              refine LW.extract rfl rfl rfl ?_
              refine LW.assign rfl rfl ?_
              refine LW.assign rfl rfl ?_
              refine LW.assign rfl rfl ?_
              refine LW.nil ?_
              refine NW.then_ ?_
              refine CW.seq ?_
              refine CW.seq ?_
              refine CW.region ?_
              refine LW.move rfl rfl ?_
              refine LW.neq false rfl rfl (bne_eq_false_iff_eq.2 (by omega)) rfl ?_
              refine LW.move rfl rfl ?_
              refine LW.on 92 rfl rfl ?_
              refine LW.move rfl rfl ?_
              refine LW.on 92 rfl rfl ?_
              refine LW.ptrNil _ rfl Tryd.underlying44 rfl rfl ?_
              refine LW.pickF rfl rfl rfl ?_
              refine LW.move rfl rfl ?_
              refine LW.on 96 rfl rfl ?_
              refine LW.move rfl rfl ?_
              refine LW.on 96 rfl rfl ?_
              refine LW.move rfl rfl ?_
              refine LW.on 96 rfl rfl ?_
              refine LW.call (law_ints_eq W B ch5 A5 X cp5 cx lx.length lx rfl ho5.src hsx.mono0 (by omega)) Tryd.func38 rfl FactsLawSAll.fname38 ⟨rfl, rfl, trivial⟩ (by repeat (first | exact Take.head _ _ | apply Take.tail)) rfl ?_
              rintro _ _ ⟨rfl, rfl⟩
              refine LW.on 96 rfl rfl ?_
              refine LW.not (false) rfl (rfl) rfl ?_
              refine LW.on 96 rfl rfl ?_
              refine LW.move rfl rfl ?_
              refine LW.off 101 rfl rfl rfl rfl ?_
              refine LW.off 101 rfl rfl rfl rfl ?_
              refine LW.off 101 rfl rfl rfl rfl ?_
              refine LW.offU 104 rfl rfl rfl ?_
              refine LW.offU 104 rfl rfl rfl ?_
              refine LW.offU 104 rfl rfl rfl ?_
              refine LW.offU 104 rfl rfl rfl ?_
              refine LW.off 101 rfl rfl rfl rfl ?_
              refine LW.on 96 rfl rfl ?_
              refine LW.pickF rfl rfl rfl ?_
              refine LW.pickF rfl rfl rfl ?_
              refine LW.nil ?_
              refine NW.then_ ?_
              refine CW.cond_false rfl ?_
              refine CW.skip ?_
              refine NW.then_ ?_
              refine CW.seq ?_
              refine CW.region ?_
              refine LW.move rfl rfl ?_
              refine LW.neq false rfl rfl (bne_eq_false_iff_eq.2 (by omega)) rfl ?_
              refine LW.nil ?_
              refine NW.then_ ?_
              refine CW.cond_false rfl ?_
              refine CW.skip ?_
              refine NW.block ?_
              refine NW.then_ ?_
              refine CW.region ?_
              refine LW.move rfl rfl ?_
              refine LW.add ((i + 1 : Int)) rfl rfl (by first | rfl | exact wr64 (by omega) (by omega) (by omega)) rfl ?_
              refine LW.assign rfl rfl ?_
              refine LW.nil ?_
              refine NW.meet (⟨i + 1, sr + 1, d1, lx, X, cx, []⟩) ?j4 ?e4 ?h4
              case j4 => exact ⟨⟨by dsimp only; omega, by dsimp only; omega, by dsimp only; omega, ho1, hf1, hs1, by dsimp only; omega, hsx⟩, by dsimp only; omega⟩
              case e4 => repeat (first | exact Env.Le.nil _ | refine Env.Le.cons rfl ?_)
              case h4 => repeat (first | exact Sub.heap_nil _ | exact Sub.refl _ | refine Sub.heap_cons (Take.none _) ?_ | refine Sub.heap_cons (by repeat (first | exact Take.head _ _ | apply Take.tail)) ?_)
            · refine LW.split2 (LW.split2p ?_)
              refine LW.assign rfl rfl ?_
              refine LW.nil ?_
              refine NW.then_ ?_
              refine CW.seq ?_
              refine CW.seq ?_
              refine CW.region ?_
              refine LW.move rfl rfl ?_
              refine LW.eql false rfl rfl (beq_eq_false_iff_ne.2 (by omega)) rfl ?_
              refine LW.nil ?_
              refine NW.then_ ?_
              refine CW.cond_false rfl ?_
              refine CW.skip ?_
              refine NW.then_ ?_
              refine CW.seq ?_
              refine CW.region ?_
              refine LW.move rfl rfl ?_
              refine LW.move rfl rfl ?_
              refine LW.call (dev_Crash W B p bn bw bl 64 d1 ho1 [] A2 cp2 keep hsrc) Tryd.func29 rfl FactsLawSAll.fname29 ⟨rfl, rfl, trivial⟩ (Take.both (Take.none _) (by repeat (first | exact Take.head _ _ | apply Take.tail))) rfl ?_
              rintro _ _ ⟨cp', cn, cw, cl, rfl, rfl⟩; refine LW.split2 (LW.split2p ?_)
              rcases hx1 _ (crash_mix ho1 keep) with hc1 | hc1
              · refine LW.call (slot_Open_ok W B cp' cn cw cl 64 (d1.crash 64 keep) (ho1.crash keep) hc1 (by omega)) Tryd.func33 rfl FactsLawSAll.fname33 ⟨rfl, trivial⟩ (by repeat (first | exact Take.head _ _ | apply Take.tail)) rfl ?_
                rintro _ _ ⟨q5, v5, ch5, rfl, ho5, rfl⟩; obtain ⟨A5, cp5, rfl, _, _⟩ := OwnS.val ho5; refine LW.split2 (LW.split2p ?_)
                refine LW.move rfl rfl ?_
                refine LW.extract rfl rfl rfl ?_
                refine LW.extract rfl rfl rfl ?_
                refine LW.extract rfl rfl rfl ?_
                refine LW.assign rfl rfl ?_
                refine LW.assign rfl rfl ?_
                refine LW.assign rfl rfl ?_
                refine LW.nil ?_
                refine NW.then_ ?_
                refine CW.seq ?_
                refine CW.seq ?_
                refine CW.region ?_
                refine LW.move rfl rfl ?_
                refine LW.neq false rfl rfl (bne_eq_false_iff_eq.2 (by omega)) rfl ?_
                refine LW.move rfl rfl ?_
                refine LW.on 92 rfl rfl ?_
                refine LW.move rfl rfl ?_
                refine LW.on 92 rfl rfl ?_
                refine LW.ptrNil _ rfl Tryd.underlying44 rfl rfl ?_
                refine LW.pickF rfl rfl rfl ?_
                refine LW.move rfl rfl ?_
                refine LW.on 96 rfl rfl ?_
                refine LW.move rfl rfl ?_
                refine LW.on 96 rfl rfl ?_
                refine LW.move rfl rfl ?_
                refine LW.on 96 rfl rfl ?_
                refine LW.call (law_ints_eq W B (ch5 ++ ch) A5 C cp5 cc w.length w rfl (Src.left W B ho5.src) (Src.right W B hC) (by omega)) Tryd.func38 rfl FactsLawSAll.fname38 ⟨rfl, rfl, trivial⟩ (Take.both (by repeat (first | exact Take.head _ _ | apply Take.tail)) (by repeat (first | exact Take.head _ _ | apply Take.tail))) rfl ?_
                rintro _ _ ⟨rfl, rfl⟩; refine LW.split2 ?_
                refine LW.on 96 rfl rfl ?_
                refine LW.not (false) rfl (rfl) rfl ?_
                refine LW.on 96 rfl rfl ?_
                refine LW.move rfl rfl ?_
                refine LW.off 101 rfl rfl rfl rfl ?_
                refine LW.off 101 rfl rfl rfl rfl ?_
                refine LW.off 101 rfl rfl rfl rfl ?_
                refine LW.offU 104 rfl rfl rfl ?_
                refine LW.offU 104 rfl rfl rfl ?_
                refine LW.offU 104 rfl rfl rfl ?_
                refine LW.offU 104 rfl rfl rfl ?_
                refine LW.off 101 rfl rfl rfl rfl ?_
                refine LW.on 96 rfl rfl ?_
                refine LW.pickF rfl rfl rfl ?_
                refine LW.pickF rfl rfl rfl ?_
                refine LW.nil ?_
                refine NW.then_ ?_
                refine CW.cond_false rfl ?_
                refine CW.skip ?_
                refine NW.then_ ?_
                refine CW.seq ?_
                refine CW.region ?_
                refine LW.move rfl rfl ?_
                refine LW.neq true rfl rfl (bne_iff_ne.2 (by omega)) rfl ?_
                refine LW.nil ?_
                refine NW.then_ ?_
                refine CW.cond_true rfl ?_
                refine CW.seq ?_
                refine CW.region ?_
                refine LW.move rfl rfl ?_
                refine LW.eql true rfl rfl (beq_iff_eq.2 (by omega)) rfl ?_
                refine LW.move rfl rfl ?_
                refine LW.on 116 rfl rfl ?_
                refine LW.move rfl rfl ?_
                refine LW.on 116 rfl rfl ?_
                refine LW.buildSlice (vs := [_]) ⟨rfl, trivial⟩ rfl (by intro v hv; simp at hv; subst hv; rfl) Tryd.underlying47 FactsLawSAll.info2 rfl (by decide) (by decide) rfl ?_
                intro bs118
                refine LW.on 116 rfl rfl ?_
                refine LW.call (slot_Set_bad W B q p sr _ _ _ (by decide)) Tryd.func35 rfl FactsLawSAll.fname35 ⟨rfl, rfl, trivial⟩ (by repeat (first | exact Take.head _ _ | apply Take.tail)) rfl ?_
                rintro _ _ ⟨rfl, rfl⟩
                refine LW.on 116 rfl rfl ?_
                refine LW.eql true rfl rfl (beq_iff_eq.2 (by omega)) rfl ?_
                refine LW.pickT rfl rfl rfl ?_
                refine LW.assign rfl rfl ?_
                refine LW.nil ?_
                refine NW.then_ ?_
                refine CW.ret ?_
                refine NW.block_ret ?_
                refine NW.then_ret ?_
                refine NW.then_ret ?_
                refine NW.block_ret ?_
                refine NW.then_ret ?_
                refine NW.ret1 rfl rfl ⟨_, ⟨rfl, rfl⟩, ?_⟩
                exact Sub.nil _
              · refine LW.call (slot_Open_ok W B cp' cn cw cl 64 (d1.crash 64 keep) (ho1.crash keep) hc1 (by omega)) Tryd.func33 rfl FactsLawSAll.fname33 ⟨rfl, trivial⟩ (by repeat (first | exact Take.head _ _ | apply Take.tail)) rfl ?_
                rintro _ _ ⟨q5, v5, ch5, rfl, ho5, rfl⟩; obtain ⟨A5, cp5, rfl, _, _⟩ := OwnS.val ho5; refine LW.split2 (LW.split2p ?_)
                refine LW.move rfl rfl ?_
                refine LW.extract rfl rfl rfl ?_
                refine LW.extract rfl rfl rfl ?_
                refine LW.extract rfl rfl rfl ?_
                refine LW.assign rfl rfl ?_
                refine LW.assign rfl rfl ?_
                refine LW.assign rfl rfl ?_
                refine LW.nil ?_
                refine NW.then_ ?_
                refine CW.seq ?_
                refine CW.seq ?_
                refine CW.region ?_
                refine LW.move rfl rfl ?_
                refine LW.neq false rfl rfl (bne_eq_false_iff_eq.2 (by omega)) rfl ?_
                refine LW.move rfl rfl ?_
                refine LW.on 92 rfl rfl ?_
                refine LW.move rfl rfl ?_
                refine LW.on 92 rfl rfl ?_
                refine LW.ptrNil _ rfl Tryd.underlying44 rfl rfl ?_
                refine LW.pickF rfl rfl rfl ?_
                refine LW.move rfl rfl ?_
                refine LW.on 96 rfl rfl ?_
                refine LW.move rfl rfl ?_
                by_cases hab : lx = w
                · refine LW.on 96 rfl rfl ?_
                  subst hab
                  refine LW.move rfl rfl ?_
                  refine LW.on 96 rfl rfl ?_
                  refine LW.call (law_ints_eq W B (ch5 ++ ch) A5 C cp5 cc lx.length lx rfl (Src.left W B ho5.src) (Src.right W B hC) (by omega)) Tryd.func38 rfl FactsLawSAll.fname38 ⟨rfl, rfl, trivial⟩ (Take.both (by repeat (first | exact Take.head _ _ | apply Take.tail)) (by repeat (first | exact Take.head _ _ | apply Take.tail))) rfl ?_
                  rintro _ _ ⟨rfl, rfl⟩; refine LW.split2 ?_
                  refine LW.on 96 rfl rfl ?_
                  refine LW.not (false) rfl (rfl) rfl ?_
                  refine LW.on 96 rfl rfl ?_
                  refine LW.move rfl rfl ?_
                  refine LW.off 101 rfl rfl rfl rfl ?_
                  refine LW.off 101 rfl rfl rfl rfl ?_
                  refine LW.off 101 rfl rfl rfl rfl ?_
                  refine LW.offU 104 rfl rfl rfl ?_
                  refine LW.offU 104 rfl rfl rfl ?_
                  refine LW.offU 104 rfl rfl rfl ?_
                  refine LW.offU 104 rfl rfl rfl ?_
                  refine LW.off 101 rfl rfl rfl rfl ?_
                  refine LW.on 96 rfl rfl ?_
                  refine LW.pickF rfl rfl rfl ?_
                  refine LW.pickF rfl rfl rfl ?_
                  refine LW.nil ?_
                  refine NW.then_ ?_
                  refine CW.cond_false rfl ?_
                  refine CW.skip ?_
                  refine NW.then_ ?_
                  refine CW.seq ?_
                  refine CW.region ?_
                  refine LW.move rfl rfl ?_
                  refine LW.neq true rfl rfl (bne_iff_ne.2 (by omega)) rfl ?_
                  refine LW.nil ?_
                  refine NW.then_ ?_
                  refine CW.cond_true rfl ?_
                  refine CW.seq ?_
                  refine CW.region ?_
                  refine LW.move rfl rfl ?_
                  refine LW.eql true rfl rfl (beq_iff_eq.2 (by omega)) rfl ?_
                  refine LW.move rfl rfl ?_
                  refine LW.on 116 rfl rfl ?_
                  refine LW.move rfl rfl ?_
                  refine LW.on 116 rfl rfl ?_
                  refine LW.buildSlice (vs := [_]) ⟨rfl, trivial⟩ rfl (by intro v hv; simp at hv; subst hv; rfl) Tryd.underlying47 FactsLawSAll.info2 rfl (by decide) (by decide) rfl ?_
                  intro bs118
                  refine LW.on 116 rfl rfl ?_
                  refine LW.call (slot_Set_bad W B q p sr _ _ _ (by decide)) Tryd.func35 rfl FactsLawSAll.fname35 ⟨rfl, rfl, trivial⟩ (by repeat (first | exact Take.head _ _ | apply Take.tail)) rfl ?_
                  rintro _ _ ⟨rfl, rfl⟩
                  refine LW.on 116 rfl rfl ?_
                  refine LW.eql true rfl rfl (beq_iff_eq.2 (by omega)) rfl ?_
                  refine LW.pickT rfl rfl rfl ?_
                  refine LW.assign rfl rfl ?_
                  refine LW.nil ?_
                  refine NW.then_ ?_
                  refine CW.ret ?_
                  refine NW.block_ret ?_
                  refine NW.then_ret ?_
                  refine NW.then_ret ?_
                  refine NW.block_ret ?_
                  refine NW.then_ret ?_
                  refine NW.ret1 rfl rfl ⟨_, ⟨rfl, rfl⟩, ?_⟩
                  exact Sub.nil _
                · refine LW.on 96 rfl rfl ?_
                  refine LW.move rfl rfl ?_
                  refine LW.on 96 rfl rfl ?_
                  refine LW.call (law_ints_ne W B (ch5 ++ ch) A5 C cp5 cc lx w (Src.left W B ho5.src) (Src.right W B hC) (by omega) (by omega) hab) Tryd.func38 rfl FactsLawSAll.fname38 ⟨rfl, rfl, trivial⟩ (Take.both (by repeat (first | exact Take.head _ _ | apply Take.tail)) (by repeat (first | exact Take.head _ _ | apply Take.tail))) rfl ?_
                  rintro _ _ ⟨rfl, rfl⟩; refine LW.split2 ?_
                  refine LW.on 96 rfl rfl ?_
                  refine LW.not (true) rfl (rfl) rfl ?_
                  refine LW.on 96 rfl rfl ?_
                  refine LW.move rfl rfl ?_
                  refine LW.on 101 rfl rfl ?_
                  refine LW.move rfl rfl ?_
                  refine LW.on 101 rfl rfl ?_
                  refine LW.eql false rfl rfl (beq_eq_false_iff_ne.2 (by omega)) rfl ?_
                  refine LW.on 101 rfl rfl ?_
                  refine LW.move rfl rfl ?_
                  refine LW.on 104 rfl rfl ?_
                  refine LW.move rfl rfl ?_
                  refine LW.on 104 rfl rfl ?_
                  refine LW.move rfl rfl ?_
                  refine LW.on 104 rfl rfl ?_
                  refine LW.call (law_ints_eq W B ch5 A5 X cp5 cx lx.length lx rfl ho5.src hsx.mono0 (by omega)) Tryd.func38 rfl FactsLawSAll.fname38 ⟨rfl, rfl, trivial⟩ (by repeat (first | exact Take.head _ _ | apply Take.tail)) rfl ?_
                  rintro _ _ ⟨rfl, rfl⟩
                  refine LW.on 104 rfl rfl ?_
                  refine LW.not (false) rfl (rfl) rfl ?_
                  refine LW.on 101 rfl rfl ?_
                  refine LW.pickF rfl rfl rfl ?_
                  refine LW.on 96 rfl rfl ?_
                  refine LW.pickT rfl rfl rfl ?_
                  refine LW.pickF rfl rfl rfl ?_
                  refine LW.nil ?_
                  refine NW.then_ ?_
                  refine CW.cond_false rfl ?_
                  refine CW.skip ?_
                  refine NW.then_ ?_
                  refine CW.seq ?_
                  refine CW.region ?_
                  refine LW.move rfl rfl ?_
                  refine LW.neq true rfl rfl (bne_iff_ne.2 (by omega)) rfl ?_
                  refine LW.nil ?_
                  refine NW.then_ ?_
                  refine CW.cond_true rfl ?_
                  refine CW.seq ?_
                  refine CW.region ?_
                  refine LW.move rfl rfl ?_
                  refine LW.eql true rfl rfl (beq_iff_eq.2 (by omega)) rfl ?_
                  refine LW.move rfl rfl ?_
                  refine LW.on 116 rfl rfl ?_
                  refine LW.move rfl rfl ?_
                  refine LW.on 116 rfl rfl ?_
                  refine LW.buildSlice (vs := [_]) ⟨rfl, trivial⟩ rfl (by intro v hv; simp at hv; subst hv; rfl) Tryd.underlying47 FactsLawSAll.info2 rfl (by decide) (by decide) rfl ?_
                  intro bs118
                  refine LW.on 116 rfl rfl ?_
                  refine LW.call (slot_Set_bad W B q p sr _ _ _ (by decide)) Tryd.func35 rfl FactsLawSAll.fname35 ⟨rfl, rfl, trivial⟩ (by repeat (first | exact Take.head _ _ | apply Take.tail)) rfl ?_
                  rintro _ _ ⟨rfl, rfl⟩
                  refine LW.on 116 rfl rfl ?_
                  refine LW.eql true rfl rfl (beq_iff_eq.2 (by omega)) rfl ?_
                  refine LW.pickT rfl rfl rfl ?_
                  refine LW.assign rfl rfl ?_
                  refine LW.nil ?_
                  refine NW.then_ ?_
                  refine CW.ret ?_
                  refine NW.block_ret ?_
                  refine NW.then_ret ?_
                  refine NW.then_ret ?_
                  refine NW.block_ret ?_
                  refine NW.then_ret ?_
                  refine NW.ret1 rfl rfl ⟨_, ⟨rfl, rfl⟩, ?_⟩
                  exact Sub.nil _
      · refine LW.on 39 rfl rfl ?_
        refine LW.lss false rfl rfl (decide_eq_false (by omega)) rfl ?_
        refine LW.pickT rfl rfl rfl ?_
        refine LW.nil ?_
        refine NW.then_ ?_
        refine CW.cond_false rfl ?_
        refine CW.exit ?_
        refine NW.then_exit ?_
        refine NW.then_exit ?_
        refine NW.block_exit ?_
        refine NW.then_ ?_
        refine CW.seq ?_
        refine CW.region ?_
        refine LW.assign rfl rfl ?_
        refine LW.nil ?_
        refine NW.then_ ?_
        refine CW.ret ?_
        refine NW.ret1 rfl rfl ⟨_, ⟨rfl, rfl⟩, ?_⟩
        exact Sub.nil _
    · refine LW.lss false rfl rfl (decide_eq_false (by omega)) rfl ?_
      refine LW.move rfl rfl ?_
      refine LW.off 39 rfl rfl rfl rfl ?_
      refine LW.off 39 rfl rfl rfl rfl ?_
      refine LW.pickF rfl rfl rfl ?_
      refine LW.nil ?_
      refine NW.then_ ?_
      refine CW.cond_false rfl ?_
      refine CW.exit ?_
      refine NW.then_exit ?_
      refine NW.then_exit ?_
      refine NW.block_exit ?_
      refine NW.then_ ?_
      refine CW.seq ?_
      refine CW.region ?_
      refine LW.assign rfl rfl ?_
      refine LW.nil ?_
      refine NW.then_ ?_
      refine CW.ret ?_
      refine NW.ret1 rfl rfl ⟨_, ⟨rfl, rfl⟩, ?_⟩
      exact Sub.nil _
end
end Go.Proofs.YtpnhonhjheahhaaDoor
