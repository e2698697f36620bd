/-
  FailAll at a code, walked.
-/
import Derived.Test.YtemdebmfdhamgaaFmtFAll
namespace Go.Proofs.YtemdebmfdhamgaaFmt
open Go.RowKit Go.Extern
namespace FactsLawFAll1
theorem concrete24 : Tryf.prog.concrete 24 = true := by kernel_rfl
theorem concrete36 : Tryf.prog.concrete 36 = true := by kernel_rfl
theorem fname10 : (Tryf.f10.name == "runtime.NumGoroutine") = false := by kernel_rfl
theorem fname11 : (Tryf.f11.name == "runtime.NumGoroutine") = false := by kernel_rfl
theorem fname12 : (Tryf.f12.name == "runtime.NumGoroutine") = false := by kernel_rfl
theorem fname13 : (Tryf.f13.name == "runtime.NumGoroutine") = false := by kernel_rfl
theorem fname14 : (Tryf.f14.name == "runtime.NumGoroutine") = false := by kernel_rfl
theorem fname5 : (Tryf.f5.name == "runtime.NumGoroutine") = false := by kernel_rfl
theorem fname6 : (Tryf.f6.name == "runtime.NumGoroutine") = false := by kernel_rfl
theorem fname7 : (Tryf.f7.name == "runtime.NumGoroutine") = false := by kernel_rfl
theorem fname8 : (Tryf.f8.name == "runtime.NumGoroutine") = false := by kernel_rfl
theorem fname9 : (Tryf.f9.name == "runtime.NumGoroutine") = false := by kernel_rfl
theorem info9 : (Tryf.prog.info? 9).map (fun i => (i.zero, i.size, i.bytes)) = some (some (.string ⟨#[]⟩), 1, 16) := by kernel_rfl
theorem ixs22 : (Tryf.prog.info? 9).map (·.size) = some 1 := by kernel_rfl
theorem mixed : Tryf.prog.follows .mixedOrders = true := by kernel_rfl
theorem one24 : oneB Tryf.prog 24 = true := by kernel_rfl
theorem one9 : oneB Tryf.prog 9 = true := by kernel_rfl
theorem szt9 : (Tryf.prog.info? 9).map (·.size) = some 1 := by kernel_rfl
theorem zero24 : (Tryf.prog.info? 24).bind (·.zero) = some (.int .i64 0) := by kernel_rfl
end FactsLawFAll1
section
variable (W : World) (B : Nat)
set_option maxHeartbeats 4000000 in
theorem law_FailAll1 (h0 : 0 < B) (hg : W.cell? ⟨0, 0, none⟩ = some (rty 26)) (A : Option Addr) (cp : Nat) (a : List (List UInt8)) (hac : a.length ≤ cp) (hA : Src W B [] A (a.map strV)) (hza : ∀ s ∈ a, s.length ≤ 140737488355328) (c0 : Int)
    (c : Int) (hcn : c ≠ 0) (hcp : 0 ≤ c) (hc14 : c < 14) (hc : (c0.tmod 14 + 14).tmod 14 = c) (hc1 : -14 < c0.tmod 14) (hc2 : c0.tmod 14 < 14) :
    Spec Tryf.prog W B 4 [.slice A a.length cp, .int .i64 c0] [] (fun v post => v = .bool true ∧ post = []) := by
  have hma := min_take' a 6
  have hsa := hA.sub 6
  rw [← List.map_take] at hsa
  have hla : (a.take 6).length ≤ a.length := by rw [List.length_take]; omega
  have hla5 : (a.take 6).length ≤ 6 := by rw [List.length_take]; omega
  have hza' : ∀ s ∈ a.take 6, s.length ≤ 140737488355328 := fun s hs => hza s (List.mem_of_mem_take hs)
  generalize a.take 6 = la at hma hsa hla hla5 hza'
  have hta : ∀ i, i < la.length → la.take (i + 1) = la.take i ++ [la.getD i []] := fun i hi => by rw [List.take_add_one]; simp [List.getD, List.getElem?_eq_getElem hi]
  have hga : ∀ i, i < la.length → (la.map strV)[((i : Nat) : Int).toNat * 1]? = some (strV (la.getD i [])) := fun i hi => by simp [List.getD, List.getElem?_eq_getElem hi]
  have hmem : ∀ i, i < la.length → (la.getD i []).length ≤ 140737488355328 := fun i hi => hza' _ (by simp [List.getD, List.getElem?_eq_getElem hi])
  refine Spec.enter ([]) Tryf.func4 rfl Tryf.ntmps4 rfl (by first | rfl | simp) (fun w0 => ?_)
  refine CW.seq ?_
  refine CW.region ?_
  refine LW.assign rfl rfl ?_
  refine LW.nil ?_
  refine NW.then_ ?_
  refine CW.seq ?_
  refine CW.region ?_
  refine LW.call (law_begun W B h0 hg) Tryf.func5 rfl FactsLawFAll1.fname5 trivial (Take.none _) rfl ?_
  rintro _ _ ⟨rfl, rfl⟩
  refine LW.assign rfl rfl ?_
  refine LW.nil ?_
  refine NW.then_ ?_
  refine CW.seq ?_
  refine CW.seq ?_
  refine CW.region ?_
  refine LW.move rfl rfl ?_
  refine LW.not (false) rfl (rfl) rfl ?_
  refine LW.nil ?_
  refine NW.then_ ?_
  refine CW.cond_false rfl ?_
  refine CW.skip ?_
  refine NW.then_ ?_
  refine CW.seq ?_
  refine CW.region ?_
  refine LW.move rfl rfl ?_
  refine LW.rem (c0.tmod 14) rfl rfl (by decide) (rfl) rfl ?_
  refine LW.add (c0.tmod 14 + 14) rfl rfl (by first | rfl | exact wr64 (by omega) (by omega) (by omega)) rfl ?_
  refine LW.rem (c) rfl rfl (by decide) (hc) rfl ?_
  refine LW.assign rfl rfl ?_
  refine LW.nil ?_
  refine NW.then_ ?_
  refine CW.seq ?_
  refine CW.region ?_
  refine LW.move rfl rfl ?_
  refine LW.move rfl rfl ?_
  refine LW.lenSlice rfl Tryf.underlying22 rfl ?_
  refine LW.min2 ((la.length : Int)) rfl rfl (hma) rfl ?_
  refine LW.cutTo (la.length) rfl rfl Tryf.underlying22 FactsLawFAll1.szt9 (hla) (hac) rfl ?_
  refine LW.assign rfl rfl ?_
  refine LW.nil ?_
  refine NW.then_ ?_
  refine CW.seq ?_
  refine CW.region ?_
  refine LW.move rfl rfl ?_
  refine LW.mkIface rfl FactsLawFAll1.concrete24 rfl ?_
  refine LW.assign rfl rfl ?_
  refine LW.nil ?_
  refine NW.then_ ?_
  refine CW.seq ?_
  refine CW.region ?_
  refine LW.assign rfl rfl ?_
  refine LW.nil ?_
  refine NW.then_ ?_
  refine CW.seq ?_
  refine CW.region ?_
  refine LW.move rfl rfl ?_
  refine LW.call (errno_Error W B c) Tryf.func12 rfl FactsLawFAll1.fname12 ⟨rfl, trivial⟩ (Take.none _) rfl ?_
  rintro _ _ ⟨rfl, rfl⟩
  refine LW.assign rfl rfl ?_
  refine LW.nil ?_
  refine NW.then_ ?_
  refine CW.seq ?_
  refine CW.seq ?_
  refine CW.region ?_
  refine LW.move rfl rfl ?_
  refine LW.lenSlice rfl Tryf.underlying22 rfl ?_
  refine LW.move rfl rfl ?_
  refine LW.nil ?_
  refine NW.then_ ?_
  refine CW.block ?_
  refine CW.loop (fun st : Nat × List (Nat × List UInt8) × Value × List Row => [(35, .int .i64 (st.1 : Int)), (34, .int .i64 (la.length : Int)), (7, cV (ats st.2.1) (eno c)), (9, strV (textL st.2.1 c)), (8, st.2.2.1), (6, .int .i64 c), (0, .slice A la.length cp)]) (fun st => [st.2.2.2, cR (ats st.2.1) (eno c)]) (fun st => st.1 ≤ la.length ∧ st.2.1.map (·.2) = (la.take st.1).reverse ∧ OwnS 9 1 st.2.2.1 (st.2.1.map (·.2)).length ((st.2.1.map (·.2)).map strV) st.2.2.2) (fun st => la.length - st.1) (0, [], .slice none 0 0, []) ?st10_j ?st10_e ?st10_h ?st10_r
  case st10_j => exact ⟨Nat.zero_le _, rfl, OwnS.nil⟩
  case st10_e => repeat (first | exact Env.Le.nil _ | refine Env.Le.cons rfl ?_)
  case st10_h => repeat (first | exact Sub.heap_nil _ | exact Sub.refl _ | refine Sub.heap_cons (Take.none _) ?_ | refine Sub.heap_cons (by repeat (first | exact Take.head _ _ | apply Take.tail)) ?_)
  case st10_r =>
    rintro ⟨i, q, v, ch⟩ ⟨hi, hq, ho⟩; dsimp only at hi hq ho
    refine CW.seq ?_
    obtain ⟨Aw, cw, rfl, hAw, hcw⟩ := ho.val
    have hsw := OwnS.src (W := W) (B := B) ho
    have hlq : (q.map (·.2)).length = (la.take i).length := by have := congrArg List.length hq; simpa using this
    have hlq1 : (q.map (·.2)).length = q.length := List.length_map _
    have hlq2 : (la.take i).length ≤ 6 := by rw [List.length_take]; omega
    have htl := textL_le' 140737488355328 c q (fun x hx => hza' x (by rw [hq] at hx; exact List.mem_of_mem_take (List.mem_reverse.1 hx)))
    have htl2 : q.length * (140737488355328 + 2) ≤ 6 * (140737488355328 + 2) := Nat.mul_le_mul_right _ (by omega)
    have hln : (textL q c).length ≤ 9223372036854775807 := by omega
    refine CW.region ?_
    refine LW.lss (decide ((i : Int) < (la.length : Int))) rfl rfl (rfl) rfl ?_
    refine LW.nil ?_
    refine NW.then_ ?_
    refine CW.seq ?_
    refine CW.cond rfl (fun hc36 => ?_) (fun hc36 => ?_)
    · have hin : i < la.length := by have := of_decide_eq_true hc36; omega
      obtain ⟨a1, rfl⟩ : ∃ x, A = some x := hsa.some (by rw [List.length_map]; omega)
      have hm1 := hmem i hin
      refine CW.skip ?_
      refine NW.then_ ?_
      refine CW.seq ?_
      refine CW.block ?_
      refine CW.seq ?_
      refine CW.region ?_
      refine LW.move rfl rfl ?_
      refine LW.assign rfl rfl ?_
      refine LW.nil ?_
      refine NW.then_ ?_
      refine CW.seq ?_
      refine CW.region ?_
      refine LW.move rfl rfl ?_
      refine LW.move rfl rfl ?_
      refine LW.indexAt rfl rfl Tryf.underlying22 FactsLawFAll1.ixs22 (by omega) (by omega) rfl ?_
      refine LW.loadRd (v := strV (la.getD i [])) rfl (hsa.rd (Take.none _)) (hga i hin) FactsLawFAll1.one9 rfl ?_
      refine LW.move rfl rfl ?_
      refine LW.call (c_At W B (la.getD i []) (ats q) c (fun _ => hcn)) Tryf.func6 rfl FactsLawFAll1.fname6 ⟨rfl, rfl, trivial⟩ (by repeat (first | exact Take.head _ _ | apply Take.tail)) rfl ?_
      rintro _ _ ⟨p, rfl, rfl⟩
      refine LW.assign rfl rfl ?_
      refine LW.nil ?_
      refine NW.then_ ?_
      refine CW.seq ?_
      refine CW.region ?_
      refine LW.move rfl rfl ?_
      refine LW.move rfl rfl ?_
      refine LW.indexAt rfl rfl Tryf.underlying22 FactsLawFAll1.ixs22 (by omega) (by omega) rfl ?_
      refine LW.loadRd (v := strV (la.getD i [])) rfl (hsa.rd (Take.none _)) (hga i hin) FactsLawFAll1.one9 rfl ?_
      refine LW.buildSlice (vs := [_]) ⟨rfl, trivial⟩ rfl (by intro v hv; simp at hv; subst hv; rfl) Tryf.underlying22 FactsLawFAll1.info9 rfl (by decide) (by decide) rfl ?_
      intro bs48
      refine LW.move rfl rfl ?_
      refine LW.append ((q.map (·.2)).map strV) rfl rfl Tryf.underlying22 Tryf.underlying22 (.inr ⟨_, rfl⟩) FactsLawFAll1.info9 rfl (OwnS.row rfl) (by repeat (first | exact Take.head _ _ | apply Take.tail)) (fun _ => lenOf_slice _ _ _ _) (first_rd (hsw.rd (by repeat (first | exact Take.head _ _ | apply Take.tail))) (by rw [List.length_map, Nat.mul_one]) hAw) (by rw [List.length_map, Nat.mul_one]) (by intro u hu; obtain ⟨y, _, rfl⟩ := List.mem_map.1 hu; rfl) (by omega) (by omega) rfl ?_
      intro v' ch' ho'
      refine LW.assign rfl rfl ?_
      refine LW.nil ?_
      refine NW.then_ ?_
      refine CW.region ?_
      refine LW.move rfl rfl ?_
      refine LW.move rfl rfl ?_
      refine LW.indexAt rfl rfl Tryf.underlying22 FactsLawFAll1.ixs22 (by omega) (by omega) rfl ?_
      refine LW.loadRd (v := strV (la.getD i [])) rfl (hsa.rd (Take.none _)) (hga i hin) FactsLawFAll1.one9 rfl ?_
      refine LW.strAdd rfl rfl (by simp only [List.length_cons, List.length_nil]; omega) rfl ?_
      refine LW.move rfl rfl ?_
      refine LW.strAdd rfl rfl (by simp only [List.length_append, List.length_cons, List.length_nil]; omega) rfl ?_
      refine LW.assign rfl rfl ?_
      refine LW.nil ?_
      refine NW.block ?_
      refine NW.then_ ?_
      refine CW.region ?_
      refine LW.add ((i + 1 : Int)) rfl rfl (by first | rfl | exact wr64 (by omega) (by omega) (by omega)) rfl ?_
      refine LW.move rfl rfl ?_
      refine LW.nil ?_
      refine NW.meet ((i + 1, (p, la.getD i []) :: q, v', ch')) ?j1 ?e1 ?h1
      case j1 => exact ⟨⟨hin, by rw [hta i hin, List.reverse_append, List.map_cons, hq]; rfl, by simpa [Nat.add_comm] using ho'⟩, by dsimp only; omega⟩
      case e1 => repeat (first | exact Env.Le.nil _ | refine Env.Le.cons rfl ?_)
      case h1 => repeat (first | exact Sub.heap_nil _ | exact Sub.refl _ | refine Sub.heap_cons (Take.none _) ?_ | refine Sub.heap_cons (by repeat (first | exact Take.head _ _ | apply Take.tail)) ?_)
    · have hw : whereL (ats q) = q.map (·.2) := by have := whereL_ats q []; rwa [List.append_nil, show whereL [] = [] from rfl, List.append_nil] at this
      refine CW.exit ?_
      refine NW.then_exit ?_
      refine NW.then_exit ?_
      refine NW.block_exit ?_
      refine NW.then_ ?_
      refine CW.seq ?_
      refine CW.seq ?_
      refine CW.region ?_
      refine LW.move rfl rfl ?_
      refine LW.eql false rfl rfl (beq_eq_false_iff_ne.2 hcn) rfl ?_
      refine LW.nil ?_
      refine NW.then_ ?_
      refine CW.cond_false rfl ?_
      refine CW.skip ?_
      refine NW.then_ ?_
      refine CW.seq ?_
      refine CW.region ?_
      refine LW.move rfl rfl ?_
      refine LW.call (c_Where W B (ats q) c (by simp [ats]; omega)) Tryf.func8 rfl FactsLawFAll1.fname8 ⟨rfl, trivial⟩ (by repeat (first | exact Take.head _ _ | apply Take.tail)) rfl ?_
      rintro v4 _ ⟨ch4, ho4, rfl⟩; rw [hw] at ho4; obtain ⟨A4, cp4, rfl, hA4, hc4⟩ := ho4.val; have hs4 := OwnS.src (W := W) (B := B) ho4; refine LW.split2 ?_
      refine LW.assign rfl rfl ?_
      refine LW.nil ?_
      refine NW.then_ ?_
      refine CW.seq ?_
      refine CW.seq ?_
      refine CW.region ?_
      refine LW.move rfl rfl ?_
      refine LW.ifaceNil false rfl Tryf.underlying26 (.inr ⟨cV_isE (ats q) (eno_isE c), rfl⟩) rfl ?_
      refine LW.move rfl rfl ?_
      refine LW.on 87 rfl rfl ?_
      refine LW.move rfl rfl ?_
      refine LW.on 87 rfl rfl ?_
      refine LW.lenSlice rfl Tryf.underlying22 rfl ?_
      refine LW.on 87 rfl rfl ?_
      refine LW.move rfl rfl ?_
      refine LW.on 87 rfl rfl ?_
      refine LW.lenSlice rfl Tryf.underlying22 rfl ?_
      refine LW.on 87 rfl rfl ?_
      refine LW.neq false rfl rfl (bne_eq_false_iff_eq.2 rfl) rfl ?_
      refine LW.pickF rfl rfl rfl ?_
      refine LW.move rfl rfl ?_
      refine LW.on 94 rfl rfl ?_
      refine LW.move rfl rfl ?_
      refine LW.on 94 rfl rfl ?_
      refine LW.call (c_Code W B (ats q) c h0 hg) Tryf.func9 rfl FactsLawFAll1.fname9 ⟨rfl, trivial⟩ (by repeat (first | exact Take.head _ _ | apply Take.tail)) rfl ?_
      rintro _ _ ⟨rfl, rfl⟩
      refine LW.on 94 rfl rfl ?_
      refine LW.move rfl rfl ?_
      refine LW.on 94 rfl rfl ?_
      refine LW.neq false rfl rfl (bne_eq_false_iff_eq.2 rfl) rfl ?_
      refine LW.pickF rfl rfl rfl ?_
      refine LW.move rfl rfl ?_
      refine LW.on 100 rfl rfl ?_
      refine LW.move rfl rfl ?_
      refine LW.on 100 rfl rfl ?_
      refine LW.move rfl rfl ?_
      refine LW.on 100 rfl rfl ?_
      refine LW.call (c_FIs W B (ats q) c c) Tryf.func10 rfl FactsLawFAll1.fname10 ⟨rfl, rfl, trivial⟩ ((by repeat (first | exact Take.head _ _ | apply Take.tail))) rfl ?_
      rintro _ _ ⟨rfl, rfl⟩; rw [if_neg hcn, beq_self_eq_true]
      refine LW.on 100 rfl rfl ?_
      refine LW.not _ rfl rfl rfl ?_
      refine LW.pickF rfl rfl rfl ?_
      refine LW.move rfl rfl ?_
      refine LW.on 106 rfl rfl ?_
      refine LW.move rfl rfl ?_
      refine LW.on 106 rfl rfl ?_
      refine LW.call (c_FIs W B (ats q) c 0) Tryf.func10 rfl FactsLawFAll1.fname10 ⟨rfl, rfl, trivial⟩ ((by repeat (first | exact Take.head _ _ | apply Take.tail))) rfl ?_
      rintro _ _ ⟨rfl, rfl⟩; rw [if_pos rfl]
      refine LW.pickF rfl rfl rfl ?_
      refine LW.move rfl rfl ?_
      refine LW.on 110 rfl rfl ?_
      refine LW.move rfl rfl ?_
      refine LW.on 110 rfl rfl ?_
      refine LW.move rfl rfl ?_
      refine LW.on 110 rfl rfl ?_
      refine LW.add (c + 1) rfl rfl (by first | rfl | exact wr64 (by omega) (by omega) (by omega)) rfl ?_
      refine LW.on 110 rfl rfl ?_
      refine LW.call (c_FIs W B (ats q) c (c + 1)) Tryf.func10 rfl FactsLawFAll1.fname10 ⟨rfl, rfl, trivial⟩ ((by repeat (first | exact Take.head _ _ | apply Take.tail))) rfl ?_
      rintro _ _ ⟨rfl, rfl⟩; rw [if_neg (show c + 1 ≠ 0 by omega), show (c == c + 1) = false from beq_eq_false_iff_ne.2 (by omega)]
      refine LW.pickF rfl rfl rfl ?_
      refine LW.move rfl rfl ?_
      refine LW.on 116 rfl rfl ?_
      refine LW.move rfl rfl ?_
      refine LW.on 116 rfl rfl ?_
      obtain ⟨t9, x9, g9, fn9, co9, hx9, hm9, hf9, hb9, hn9, hsp9⟩ := err_says W B q c hln
      refine LW.invCall (args := []) (congrArg some hx9) hm9 hsp9 hf9 hb9 hn9 trivial (by repeat (first | exact Take.head _ _ | apply Take.tail)) rfl ?_
      rintro _ _ ⟨rfl, rfl⟩
      refine LW.on 116 rfl rfl ?_
      refine LW.move rfl rfl ?_
      refine LW.on 116 rfl rfl ?_
      refine LW.strNeq (false) rfl rfl Tryf.underlying9 (decide_eq_false (by simp)) rfl ?_
      refine LW.pickF rfl rfl rfl ?_
      refine LW.nil ?_
      refine NW.then_ ?_
      refine CW.cond_false rfl ?_
      refine CW.skip ?_
      refine NW.then_ ?_
      refine CW.seq ?_
      refine CW.seq ?_
      refine CW.region ?_
      refine LW.move rfl rfl ?_
      refine LW.lenSlice rfl Tryf.underlying22 rfl ?_
      refine LW.move rfl rfl ?_
      refine LW.nil ?_
      refine NW.then_ ?_
      refine CW.block ?_
      refine CW.loop (fun i : Nat => [(124, .int .i64 (i : Int)), (123, .int .i64 ((q.map (·.2)).length : Int)), (11, .slice A4 (q.map (·.2)).length cp4), (8, .slice Aw (q.map (·.2)).length cw), (6, .int .i64 c), (7, cV (ats q) (eno c))]) (fun _ => [ch4, ch, cR (ats q) (eno c)]) (fun i => i ≤ (q.map (·.2)).length) (fun i => (q.map (·.2)).length - i) 0 ?st22_j ?st22_e ?st22_h ?st22_r
      case st22_j => exact Nat.zero_le _
      case st22_e => repeat (first | exact Env.Le.nil _ | refine Env.Le.cons rfl ?_)
      case st22_h => repeat (first | exact Sub.heap_nil _ | exact Sub.refl _ | refine Sub.heap_cons (Take.none _) ?_ | refine Sub.heap_cons (by repeat (first | exact Take.head _ _ | apply Take.tail)) ?_)
      case st22_r =>
        intro j hj
        refine CW.seq ?_
        refine CW.region ?_
        refine LW.lss (decide ((j : Int) < ((q.map (·.2)).length : Int))) rfl rfl (rfl) rfl ?_
        refine LW.nil ?_
        refine NW.then_ ?_
        refine CW.seq ?_
        refine CW.cond rfl (fun hc125 => ?_) (fun hc125 => ?_)
        · have hjn : j < (q.map (·.2)).length := by have := of_decide_eq_true hc125; omega
          obtain ⟨a2, rfl⟩ : ∃ x, Aw = some x := hsw.some (by rw [List.length_map]; omega)
          obtain ⟨a4, rfl⟩ : ∃ x, A4 = some x := hs4.some (by rw [List.length_map]; omega)
          have hgj : ((q.map (·.2)).map strV)[((j : Nat) : Int).toNat * 1]? = some (strV ((q.map (·.2)).getD j [])) := by rw [Int.toNat_natCast, Nat.mul_one, List.getElem?_map, List.getElem?_eq_getElem hjn]; simp [List.getD, List.getElem?_eq_getElem hjn]
          refine CW.skip ?_
          refine NW.then_ ?_
          refine CW.seq ?_
          refine CW.block ?_
          refine CW.seq ?_
          refine CW.region ?_
          refine LW.move rfl rfl ?_
          refine LW.assign rfl rfl ?_
          refine LW.nil ?_
          refine NW.then_ ?_
          refine CW.seq ?_
          refine CW.quiet FactsLawFAll1.mixed (by kernel_rfl) ?_
          refine QW.step (Yl.move rfl) rfl ?_
          refine QW.step (Yl.move rfl) rfl ?_
          refine QW.step (Yl.indexAt rfl rfl Tryf.underlying22 FactsLawFAll1.ixs22 (by omega) (by omega)) rfl ?_
          refine QW.step (Yl.loadRd (v := strV ((q.map (·.2)).getD j [])) rfl (hs4.rd (by repeat (first | exact Take.head _ _ | apply Take.tail))) (hgj) FactsLawFAll1.one9) rfl ?_
          refine QW.step (Yl.move rfl) rfl ?_
          refine QW.step (Yl.move rfl) rfl ?_
          refine QW.step (Yl.indexAt rfl rfl Tryf.underlying22 FactsLawFAll1.ixs22 (by omega) (by omega)) rfl ?_
          refine QW.step (Yl.loadRd (v := strV ((q.map (·.2)).getD j [])) rfl (hsw.rd (by repeat (first | exact Take.head _ _ | apply Take.tail))) (hgj) FactsLawFAll1.one9) rfl ?_
          refine QW.step (Yl.strNeq (false) rfl rfl Tryf.underlying9 (decide_eq_false (by simp))) rfl ?_
          refine QW.nil ?_
          refine NW.then_ ?_
          refine CW.cond_false rfl ?_
          refine CW.skip ?_
          refine NW.block ?_
          refine NW.then_ ?_
          refine CW.region ?_
          refine LW.add ((j + 1 : Int)) rfl rfl (by first | rfl | exact wr64 (by omega) (by omega) (by omega)) rfl ?_
          refine LW.move rfl rfl ?_
          refine LW.nil ?_
          refine NW.meet (j + 1) ?j2 ?e2 ?h2
          case j2 => exact ⟨hjn, by omega⟩
          case e2 => repeat (first | exact Env.Le.nil _ | refine Env.Le.cons rfl ?_)
          case h2 => repeat (first | exact Sub.heap_nil _ | exact Sub.refl _ | refine Sub.heap_cons (Take.none _) ?_ | refine Sub.heap_cons (by repeat (first | exact Take.head _ _ | apply Take.tail)) ?_)
        · refine CW.exit ?_
          refine NW.then_exit ?_
          refine NW.then_exit ?_
          refine NW.block_exit ?_
          refine NW.then_ ?_
          refine CW.seq ?_
          refine CW.region ?_
          refine LW.alloc FactsLawFAll1.zero24 rfl ?_
          intro ba13
          refine LW.nil ?_
          refine NW.then_ ?_
          refine CW.seq ?_
          refine CW.seq ?_
          refine CW.region ?_
          refine LW.move rfl rfl ?_
          refine LW.move rfl rfl ?_
          refine LW.mkIface rfl FactsLawFAll1.concrete24 rfl ?_
          refine LW.call (c_Is W B (ats q) c c) Tryf.func11 rfl FactsLawFAll1.fname11 ⟨rfl, rfl, trivial⟩ ((by repeat (first | exact Take.head _ _ | apply Take.tail))) rfl ?_
          rintro _ _ ⟨rfl, rfl⟩; rw [beq_self_eq_true]
          refine LW.not _ rfl rfl rfl ?_
          refine LW.move rfl rfl ?_
          refine LW.on 142 rfl rfl ?_
          refine LW.move rfl rfl ?_
          refine LW.on 142 rfl rfl ?_
          refine LW.mkIface rfl FactsLawFAll1.concrete36 rfl ?_
          refine LW.on 142 rfl rfl ?_
          refine LW.call (c_As W B (eno c) (eno_isE c) true (ats q) ba13 (.int .i64 0) (.int .i64 c) h0 hg (fun a => c_as W B (ats q) c ba13 a _)) Tryf.func13 rfl FactsLawFAll1.fname13 ⟨rfl, rfl, trivial⟩ (Take.both (by repeat (first | exact Take.head _ _ | apply Take.tail)) (by repeat (first | exact Take.head _ _ | apply Take.tail))) rfl ?_
          rintro _ _ ⟨rfl, rfl⟩; refine LW.split2 ?_
          refine LW.on 142 rfl rfl ?_
          refine LW.not _ rfl rfl rfl ?_
          refine LW.pickF rfl rfl rfl ?_
          refine LW.move rfl rfl ?_
          refine LW.on 148 rfl rfl ?_
          refine LW.load rfl (by repeat (first | exact Take.head _ _ | apply Take.tail)) rfl FactsLawFAll1.one24 rfl ?_
          refine LW.on 148 rfl rfl ?_
          refine LW.move rfl rfl ?_
          refine LW.on 148 rfl rfl ?_
          refine LW.neq false rfl rfl (bne_eq_false_iff_eq.2 rfl) rfl ?_
          refine LW.pickF rfl rfl rfl ?_
          refine LW.nil ?_
          refine NW.then_ ?_
          refine CW.cond_false rfl ?_
          refine CW.skip ?_
          refine NW.then_ ?_
          refine CW.seq ?_
          refine CW.region ?_
          refine LW.move rfl rfl ?_
          refine LW.call (other_ok W B q c hln) Tryf.func7 rfl FactsLawFAll1.fname7 ⟨rfl, trivial⟩ (by repeat (first | exact Take.head _ _ | apply Take.tail)) rfl ?_
          rintro _ _ ⟨z, m, rfl, rfl⟩
          refine LW.call (c_At W B [120] ((true, z, m) :: ats q) c (fun h => by cases h)) Tryf.func6 rfl FactsLawFAll1.fname6 ⟨rfl, rfl, trivial⟩ (by repeat (first | exact Take.head _ _ | apply Take.tail)) rfl ?_
          rintro _ _ ⟨p, rfl, rfl⟩
          refine LW.assign rfl rfl ?_
          refine LW.nil ?_
          refine NW.then_ ?_
          refine CW.seq ?_
          refine CW.region ?_
          refine LW.move rfl rfl ?_
          refine LW.call (c_Where W B ((false, p, [120]) :: (true, z, m) :: ats q) c (by simp [ats]; omega)) Tryf.func8 rfl FactsLawFAll1.fname8 ⟨rfl, trivial⟩ (by repeat (first | exact Take.head _ _ | apply Take.tail)) rfl ?_
          rintro v5 _ ⟨ch5, ho5, rfl⟩; rw [show whereL ((false, p, [120]) :: (true, z, m) :: ats q) = [[120]] from rfl] at ho5; obtain ⟨A5, cp5, rfl, hA5, hc5⟩ := ho5.val; have hs5 := OwnS.src (W := W) (B := B) ho5; obtain ⟨a5, rfl⟩ : ∃ x, A5 = some x := hs5.some (by decide); refine LW.split2 ?_
          refine LW.assign rfl rfl ?_
          refine LW.nil ?_
          refine NW.then_ ?_
          refine CW.seq ?_
          refine CW.region ?_
          refine LW.call (errors_New W B [110, 111, 110, 101]) Tryf.func14 rfl FactsLawFAll1.fname14 ⟨rfl, trivial⟩ (Take.none _) rfl ?_
          rintro _ _ ⟨zz, rfl, rfl⟩
          refine LW.assign rfl rfl ?_
          refine LW.nil ?_
          refine NW.then_ ?_
          refine CW.seq ?_
          refine CW.region ?_
          refine LW.move rfl rfl ?_
          refine LW.call (c_Code W B ((false, p, [120]) :: (true, z, m) :: ats q) c h0 hg) Tryf.func9 rfl FactsLawFAll1.fname9 ⟨rfl, trivial⟩ (by repeat (first | exact Take.head _ _ | apply Take.tail)) rfl ?_
          rintro _ _ ⟨rfl, rfl⟩
          refine LW.move rfl rfl ?_
          refine LW.eql true rfl rfl (beq_iff_eq.2 rfl) rfl ?_
          refine LW.move rfl rfl ?_
          refine LW.on 163 rfl rfl ?_
          refine LW.move rfl rfl ?_
          refine LW.on 163 rfl rfl ?_
          refine LW.move rfl rfl ?_
          refine LW.on 163 rfl rfl ?_
          refine LW.call (c_FIs W B ((false, p, [120]) :: (true, z, m) :: ats q) c c) Tryf.func10 rfl FactsLawFAll1.fname10 ⟨rfl, rfl, trivial⟩ ((by repeat (first | exact Take.head _ _ | apply Take.tail))) rfl ?_
          rintro _ _ ⟨rfl, rfl⟩; rw [if_neg hcn, beq_self_eq_true]; refine LW.split2 (a := [cr p 58 [strV [120], cV ((true, z, m) :: ats q) (eno c)]]) (b := cR ((true, z, m) :: ats q) (eno c)) (LW.split2p (a := [cr z 129 [strV m, cV (ats q) (eno c)]]) (b := cR (ats q) (eno c)) ?_)
          refine LW.pickT rfl rfl rfl ?_
          refine LW.move rfl rfl ?_
          refine LW.on 168 rfl rfl ?_
          refine LW.move rfl rfl ?_
          refine LW.on 168 rfl rfl ?_
          refine LW.lenSlice rfl Tryf.underlying22 rfl ?_
          refine LW.on 168 rfl rfl ?_
          refine LW.eql true rfl rfl (beq_iff_eq.2 rfl) rfl ?_
          refine LW.pickT rfl rfl rfl ?_
          refine LW.move rfl rfl ?_
          refine LW.on 173 rfl rfl ?_
          refine LW.move rfl rfl ?_
          refine LW.on 173 rfl rfl ?_
          refine LW.indexAt rfl rfl Tryf.underlying22 FactsLawFAll1.ixs22 (by decide) (by decide) rfl ?_
          refine LW.on 173 rfl rfl ?_
          refine LW.loadRd (v := strV [120]) rfl (hs5.rd (by repeat (first | exact Take.head _ _ | apply Take.tail))) (rfl) FactsLawFAll1.one9 rfl ?_
          refine LW.on 173 rfl rfl ?_
          refine LW.strEql (true) rfl rfl Tryf.underlying9 (decide_eq_true rfl) rfl ?_
          refine LW.pickT rfl rfl rfl ?_
          refine LW.move rfl rfl ?_
          refine LW.on 179 rfl rfl ?_
          refine LW.move rfl rfl ?_
          refine LW.on 179 rfl rfl ?_
          refine LW.call (other_ok W B q c hln) Tryf.func7 rfl FactsLawFAll1.fname7 ⟨rfl, trivial⟩ (by repeat (first | exact Take.head _ _ | apply Take.tail)) rfl ?_
          rintro _ _ ⟨z2, m2, rfl, rfl⟩
          refine LW.on 179 rfl rfl ?_
          refine LW.call (c_Code W B ((true, z2, m2) :: ats q) c h0 hg) Tryf.func9 rfl FactsLawFAll1.fname9 ⟨rfl, trivial⟩ (by repeat (first | exact Take.head _ _ | apply Take.tail)) rfl ?_
          rintro _ _ ⟨rfl, rfl⟩
          refine LW.on 179 rfl rfl ?_
          refine LW.move rfl rfl ?_
          refine LW.on 179 rfl rfl ?_
          refine LW.eql true rfl rfl (beq_iff_eq.2 rfl) rfl ?_
          refine LW.pickT rfl rfl rfl ?_
          refine LW.move rfl rfl ?_
          refine LW.on 186 rfl rfl ?_
          refine LW.move rfl rfl ?_
          refine LW.on 186 rfl rfl ?_
          refine LW.call (c_Code_pl W B [] zz h0 hg) Tryf.func9 rfl FactsLawFAll1.fname9 ⟨rfl, trivial⟩ (Take.none _) rfl ?_
          rintro _ _ ⟨rfl, rfl⟩
          refine LW.on 186 rfl rfl ?_
          refine LW.eql true rfl rfl (rfl) rfl ?_
          refine LW.pickT rfl rfl rfl ?_
          refine LW.move rfl rfl ?_
          refine LW.on 191 rfl rfl ?_
          refine LW.move rfl rfl ?_
          refine LW.on 191 rfl rfl ?_
          refine LW.call (c_At_pl W B [121] zz) Tryf.func6 rfl FactsLawFAll1.fname6 ⟨rfl, rfl, trivial⟩ (Take.none _) rfl ?_
          rintro _ _ ⟨p2, rfl, rfl⟩
          refine LW.on 191 rfl rfl ?_
          refine LW.call (c_Code_pl W B [(false, p2, [121])] zz h0 hg) Tryf.func9 rfl FactsLawFAll1.fname9 ⟨rfl, trivial⟩ (by repeat (first | exact Take.head _ _ | apply Take.tail)) rfl ?_
          rintro _ _ ⟨rfl, rfl⟩
          refine LW.on 191 rfl rfl ?_
          refine LW.eql true rfl rfl (rfl) rfl ?_
          refine LW.pickT rfl rfl rfl ?_
          refine LW.move rfl rfl ?_
          refine LW.on 197 rfl rfl ?_
          refine LW.move rfl rfl ?_
          refine LW.on 197 rfl rfl ?_
          refine LW.call (c_At_pl W B [121] zz) Tryf.func6 rfl FactsLawFAll1.fname6 ⟨rfl, rfl, trivial⟩ (Take.none _) rfl ?_
          rintro _ _ ⟨p3, rfl, rfl⟩
          refine LW.on 197 rfl rfl ?_
          refine LW.move rfl rfl ?_
          refine LW.on 197 rfl rfl ?_
          refine LW.call (c_Is_pl W B [(false, p3, [121])] zz) Tryf.func11 rfl FactsLawFAll1.fname11 ⟨rfl, rfl, trivial⟩ ((by repeat (first | exact Take.head _ _ | apply Take.tail))) rfl ?_
          rintro _ _ ⟨rfl, rfl⟩
          refine LW.pickT rfl rfl rfl ?_
          refine LW.assign rfl rfl ?_
          refine LW.nil ?_
          refine NW.then_ ?_
          refine CW.ret ?_
          refine NW.ret1 rfl rfl ⟨_, ⟨rfl, rfl⟩, ?_⟩
          exact Sub.nil _
end
end Go.Proofs.YtemdebmfdhamgaaFmt
