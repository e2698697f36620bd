/-
  FailAll at the code that is none, walked.
-/
import Derived.Test.YtemdebmfdhamgaaFmtFAll
namespace Go.Proofs.YtemdebmfdhamgaaFmt
open Go.RowKit Go.Extern
namespace FactsLawFAll0
theorem concrete24 : Tryf.prog.concrete 24 = true := by kernel_rfl
theorem fname10 : (Tryf.f10.name == "runtime.NumGoroutine") = false := by kernel_rfl
theorem fname12 : (Tryf.f12.name == "runtime.NumGoroutine") = false := by kernel_rfl
theorem fname5 : (Tryf.f5.name == "runtime.NumGoroutine") = false := by kernel_rfl
theorem fname6 : (Tryf.f6.name == "runtime.NumGoroutine") = false := by kernel_rfl
theorem fname8 : (Tryf.f8.name == "runtime.NumGoroutine") = false := by kernel_rfl
theorem fname9 : (Tryf.f9.name == "runtime.NumGoroutine") = false := by kernel_rfl
theorem info9 : (Tryf.prog.info? 9).map (fun i => (i.zero, i.size, i.bytes)) = some (some (.string ⟨#[]⟩), 1, 16) := by kernel_rfl
theorem ixs22 : (Tryf.prog.info? 9).map (·.size) = some 1 := by kernel_rfl
theorem one9 : oneB Tryf.prog 9 = true := by kernel_rfl
theorem szt9 : (Tryf.prog.info? 9).map (·.size) = some 1 := by kernel_rfl
end FactsLawFAll0
section
variable (W : World) (B : Nat)
set_option maxHeartbeats 2000000 in
theorem law_FailAll0 (h0 : 0 < B) (hg : W.cell? ⟨0, 0, none⟩ = some (rty 26)) (A : Option Addr) (cp : Nat) (a : List (List UInt8)) (hac : a.length ≤ cp) (hA : Src W B [] A (a.map strV)) (hza : ∀ s ∈ a, s.length ≤ 140737488355328) (c0 : Int)
    (hc : (c0.tmod 14 + 14).tmod 14 = 0) (hc1 : -14 < c0.tmod 14) (hc2 : c0.tmod 14 < 14) :
    Spec Tryf.prog W B 4 [.slice A a.length cp, .int .i64 c0] [] (fun v post => v = .bool true ∧ post = []) := by
  have hma := min_take' a 6
  have hsa := hA.sub 6
  rw [← List.map_take] at hsa
  have hla : (a.take 6).length ≤ a.length := by rw [List.length_take]; omega
  have hla5 : (a.take 6).length ≤ 6 := by rw [List.length_take]; omega
  have hza' : ∀ s ∈ a.take 6, s.length ≤ 140737488355328 := fun s hs => hza s (List.mem_of_mem_take hs)
  generalize a.take 6 = la at hma hsa hla hla5 hza'
  have hta : ∀ i, i < la.length → la.take (i + 1) = la.take i ++ [la.getD i []] := fun i hi => by rw [List.take_add_one]; simp [List.getD, List.getElem?_eq_getElem hi]
  have hga : ∀ i, i < la.length → (la.map strV)[((i : Nat) : Int).toNat * 1]? = some (strV (la.getD i [])) := fun i hi => by simp [List.getD, List.getElem?_eq_getElem hi]
  have hmem : ∀ i, i < la.length → (la.getD i []).length ≤ 140737488355328 := fun i hi => hza' _ (by simp [List.getD, List.getElem?_eq_getElem hi])
  refine Spec.enter ([]) Tryf.func4 rfl Tryf.ntmps4 rfl (by first | rfl | simp) (fun w0 => ?_)
  refine CW.seq ?_
  refine CW.region ?_
  refine LW.assign rfl rfl ?_
  refine LW.nil ?_
  refine NW.then_ ?_
  refine CW.seq ?_
  refine CW.region ?_
  refine LW.call (law_begun W B h0 hg) Tryf.func5 rfl FactsLawFAll0.fname5 trivial (Take.none _) rfl ?_
  rintro _ _ ⟨rfl, rfl⟩
  refine LW.assign rfl rfl ?_
  refine LW.nil ?_
  refine NW.then_ ?_
  refine CW.seq ?_
  refine CW.seq ?_
  refine CW.region ?_
  refine LW.move rfl rfl ?_
  refine LW.not (false) rfl (rfl) rfl ?_
  refine LW.nil ?_
  refine NW.then_ ?_
  refine CW.cond_false rfl ?_
  refine CW.skip ?_
  refine NW.then_ ?_
  refine CW.seq ?_
  refine CW.region ?_
  refine LW.move rfl rfl ?_
  refine LW.rem (c0.tmod 14) rfl rfl (by decide) (rfl) rfl ?_
  refine LW.add (c0.tmod 14 + 14) rfl rfl (by first | rfl | exact wr64 (by omega) (by omega) (by omega)) rfl ?_
  refine LW.rem (0) rfl rfl (by decide) (hc) rfl ?_
  refine LW.assign rfl rfl ?_
  refine LW.nil ?_
  refine NW.then_ ?_
  refine CW.seq ?_
  refine CW.region ?_
  refine LW.move rfl rfl ?_
  refine LW.move rfl rfl ?_
  refine LW.lenSlice rfl Tryf.underlying22 rfl ?_
  refine LW.min2 ((la.length : Int)) rfl rfl (hma) rfl ?_
  refine LW.cutTo (la.length) rfl rfl Tryf.underlying22 FactsLawFAll0.szt9 (hla) (hac) rfl ?_
  refine LW.assign rfl rfl ?_
  refine LW.nil ?_
  refine NW.then_ ?_
  refine CW.seq ?_
  refine CW.region ?_
  refine LW.move rfl rfl ?_
  refine LW.mkIface rfl FactsLawFAll0.concrete24 rfl ?_
  refine LW.assign rfl rfl ?_
  refine LW.nil ?_
  refine NW.then_ ?_
  refine CW.seq ?_
  refine CW.region ?_
  refine LW.assign rfl rfl ?_
  refine LW.nil ?_
  refine NW.then_ ?_
  refine CW.seq ?_
  refine CW.region ?_
  refine LW.move rfl rfl ?_
  refine LW.call (errno_Error W B 0) Tryf.func12 rfl FactsLawFAll0.fname12 ⟨rfl, trivial⟩ (Take.none _) rfl ?_
  rintro _ _ ⟨rfl, rfl⟩
  refine LW.assign rfl rfl ?_
  refine LW.nil ?_
  refine NW.then_ ?_
  refine CW.seq ?_
  refine CW.seq ?_
  refine CW.region ?_
  refine LW.move rfl rfl ?_
  refine LW.lenSlice rfl Tryf.underlying22 rfl ?_
  refine LW.move rfl rfl ?_
  refine LW.nil ?_
  refine NW.then_ ?_
  refine CW.block ?_
  refine CW.loop (fun st : Nat × List UInt8 × Value × List Row × Value => [(35, .int .i64 (st.1 : Int)), (34, .int .i64 (la.length : Int)), (7, st.2.2.2.2), (9, strV st.2.1), (8, st.2.2.1), (6, .int .i64 0), (0, .slice A la.length cp)]) (fun st => [st.2.2.2.1]) (fun st => st.1 ≤ la.length ∧ st.2.1.length ≤ st.1 * 140737488355330 + 8 ∧ ((st.1 = 0 ∧ st.2.2.2.2 = eno 0) ∨ (0 < st.1 ∧ st.2.2.2.2 = .nilIface)) ∧ ∃ ws : List (List UInt8), ws.length = st.1 ∧ OwnS 9 1 st.2.2.1 ws.length (ws.map strV) st.2.2.2.1) (fun st => la.length - st.1) (0, errT 0, .slice none 0 0, [], eno 0) ?st10_j ?st10_e ?st10_h ?st10_r
  case st10_j => exact ⟨Nat.zero_le _, by have := errT_le 0; dsimp only; omega, .inl ⟨rfl, rfl⟩, [], rfl, OwnS.nil⟩
  case st10_e => repeat (first | exact Env.Le.nil _ | refine Env.Le.cons rfl ?_)
  case st10_h => repeat (first | exact Sub.heap_nil _ | exact Sub.refl _ | refine Sub.heap_cons (Take.none _) ?_ | refine Sub.heap_cons (by repeat (first | exact Take.head _ _ | apply Take.tail)) ?_)
  case st10_r =>
    rintro ⟨i, tx, v, ch, ev⟩ ⟨hi, htx, hev, ws, hwl, ho⟩; dsimp only at hi htx hev hwl ho
    refine CW.seq ?_
    refine CW.region ?_
    refine LW.lss (decide ((i : Int) < (la.length : Int))) rfl rfl (rfl) rfl ?_
    refine LW.nil ?_
    refine NW.then_ ?_
    refine CW.seq ?_
    refine CW.cond rfl (fun hc36 => ?_) (fun hc36 => ?_)
    · have hin : i < la.length := by have := of_decide_eq_true hc36; omega
      obtain ⟨a1, rfl⟩ : ∃ x, A = some x := hsa.some (by rw [List.length_map]; omega)
      obtain ⟨Aw, cw, rfl, hAw, hcw⟩ := ho.val
      have hsw := OwnS.src (W := W) (B := B) ho
      have hm1 := hmem i hin
      refine CW.skip ?_
      refine NW.then_ ?_
      refine CW.seq ?_
      refine CW.block ?_
      refine CW.seq ?_
      refine CW.region ?_
      rcases hev with ⟨hz, rfl⟩ | ⟨hz, rfl⟩
      · refine LW.move rfl rfl ?_
        refine LW.assign rfl rfl ?_
        refine LW.nil ?_
        refine NW.then_ ?_
        refine CW.seq ?_
        refine CW.region ?_
        refine LW.move rfl rfl ?_
        refine LW.move rfl rfl ?_
        refine LW.indexAt rfl rfl Tryf.underlying22 FactsLawFAll0.ixs22 (by omega) (by omega) rfl ?_
        refine LW.loadRd (v := strV (la.getD i [])) rfl (hsa.rd (Take.none _)) (hga i hin) FactsLawFAll0.one9 rfl ?_
        refine LW.move rfl rfl ?_
        refine LW.call (c_At_ok W B (la.getD i [])) Tryf.func6 rfl FactsLawFAll0.fname6 ⟨rfl, rfl, trivial⟩ (Take.none _) rfl ?_
        rintro _ _ ⟨rfl, rfl⟩
        refine LW.assign rfl rfl ?_
        refine LW.nil ?_
        refine NW.then_ ?_
        refine CW.seq ?_
        refine CW.region ?_
        refine LW.move rfl rfl ?_
        refine LW.move rfl rfl ?_
        refine LW.indexAt rfl rfl Tryf.underlying22 FactsLawFAll0.ixs22 (by omega) (by omega) rfl ?_
        refine LW.loadRd (v := strV (la.getD i [])) rfl (hsa.rd (Take.none _)) (hga i hin) FactsLawFAll0.one9 rfl ?_
        refine LW.buildSlice (vs := [_]) ⟨rfl, trivial⟩ rfl (by intro v hv; simp at hv; subst hv; rfl) Tryf.underlying22 FactsLawFAll0.info9 rfl (by decide) (by decide) rfl ?_
        intro bs48
        refine LW.move rfl rfl ?_
        refine LW.append (ws.map strV) rfl rfl Tryf.underlying22 Tryf.underlying22 (.inr ⟨_, rfl⟩) FactsLawFAll0.info9 rfl (OwnS.row rfl) (by repeat (first | exact Take.head _ _ | apply Take.tail)) (fun _ => lenOf_slice _ _ _ _) (first_rd (hsw.rd (by repeat (first | exact Take.head _ _ | apply Take.tail))) (by rw [List.length_map, Nat.mul_one]) hAw) (by rw [List.length_map, Nat.mul_one]) (by intro u hu; simp at hu; obtain ⟨y, _, rfl⟩ := hu; rfl) (by omega) (by omega) rfl ?_
        intro v' ch' ho'
        refine LW.assign rfl rfl ?_
        refine LW.nil ?_
        refine NW.then_ ?_
        refine CW.region ?_
        refine LW.move rfl rfl ?_
        refine LW.move rfl rfl ?_
        refine LW.indexAt rfl rfl Tryf.underlying22 FactsLawFAll0.ixs22 (by omega) (by omega) rfl ?_
        refine LW.loadRd (v := strV (la.getD i [])) rfl (hsa.rd (Take.none _)) (hga i hin) FactsLawFAll0.one9 rfl ?_
        refine LW.strAdd rfl rfl (by simp only [List.length_cons, List.length_nil]; omega) rfl ?_
        refine LW.move rfl rfl ?_
        refine LW.strAdd rfl rfl (by simp only [List.length_append, List.length_cons, List.length_nil]; omega) rfl ?_
        refine LW.assign rfl rfl ?_
        refine LW.nil ?_
        refine NW.block ?_
        refine NW.then_ ?_
        refine CW.region ?_
        refine LW.add ((i + 1 : Int)) rfl rfl (by first | rfl | exact wr64 (by omega) (by omega) (by omega)) rfl ?_
        refine LW.move rfl rfl ?_
        refine LW.nil ?_
        refine NW.meet ((i + 1, la.getD i [] ++ [58, 32] ++ tx, v', ch', .nilIface)) ?j1 ?e1 ?h1
        case j1 => exact ⟨⟨hin, by simp only [List.length_append, List.length_cons, List.length_nil]; omega, .inr ⟨Nat.succ_pos _, rfl⟩, la.getD i [] :: ws, by simp [hwl], by simpa [Nat.add_comm] using ho'⟩, by dsimp only; omega⟩
        case e1 => repeat (first | exact Env.Le.nil _ | refine Env.Le.cons rfl ?_)
        case h1 => repeat (first | exact Sub.heap_nil _ | exact Sub.refl _ | refine Sub.heap_cons (Take.none _) ?_ | refine Sub.heap_cons (by repeat (first | exact Take.head _ _ | apply Take.tail)) ?_)
      · refine LW.move rfl rfl ?_
        refine LW.assign rfl rfl ?_
        refine LW.nil ?_
        refine NW.then_ ?_
        refine CW.seq ?_
        refine CW.region ?_
        refine LW.move rfl rfl ?_
        refine LW.move rfl rfl ?_
        refine LW.indexAt rfl rfl Tryf.underlying22 FactsLawFAll0.ixs22 (by omega) (by omega) rfl ?_
        refine LW.loadRd (v := strV (la.getD i [])) rfl (hsa.rd (Take.none _)) (hga i hin) FactsLawFAll0.one9 rfl ?_
        refine LW.move rfl rfl ?_
        refine LW.call (c_At_nil W B (la.getD i [])) Tryf.func6 rfl FactsLawFAll0.fname6 ⟨rfl, rfl, trivial⟩ (Take.none _) rfl ?_
        rintro _ _ ⟨rfl, rfl⟩
        refine LW.assign rfl rfl ?_
        refine LW.nil ?_
        refine NW.then_ ?_
        refine CW.seq ?_
        refine CW.region ?_
        refine LW.move rfl rfl ?_
        refine LW.move rfl rfl ?_
        refine LW.indexAt rfl rfl Tryf.underlying22 FactsLawFAll0.ixs22 (by omega) (by omega) rfl ?_
        refine LW.loadRd (v := strV (la.getD i [])) rfl (hsa.rd (Take.none _)) (hga i hin) FactsLawFAll0.one9 rfl ?_
        refine LW.buildSlice (vs := [_]) ⟨rfl, trivial⟩ rfl (by intro v hv; simp at hv; subst hv; rfl) Tryf.underlying22 FactsLawFAll0.info9 rfl (by decide) (by decide) rfl ?_
        intro bs48
        refine LW.move rfl rfl ?_
        refine LW.append (ws.map strV) rfl rfl Tryf.underlying22 Tryf.underlying22 (.inr ⟨_, rfl⟩) FactsLawFAll0.info9 rfl (OwnS.row rfl) (by repeat (first | exact Take.head _ _ | apply Take.tail)) (fun _ => lenOf_slice _ _ _ _) (first_rd (hsw.rd (by repeat (first | exact Take.head _ _ | apply Take.tail))) (by rw [List.length_map, Nat.mul_one]) hAw) (by rw [List.length_map, Nat.mul_one]) (by intro u hu; simp at hu; obtain ⟨y, _, rfl⟩ := hu; rfl) (by omega) (by omega) rfl ?_
        intro v' ch' ho'
        refine LW.assign rfl rfl ?_
        refine LW.nil ?_
        refine NW.then_ ?_
        refine CW.region ?_
        refine LW.move rfl rfl ?_
        refine LW.move rfl rfl ?_
        refine LW.indexAt rfl rfl Tryf.underlying22 FactsLawFAll0.ixs22 (by omega) (by omega) rfl ?_
        refine LW.loadRd (v := strV (la.getD i [])) rfl (hsa.rd (Take.none _)) (hga i hin) FactsLawFAll0.one9 rfl ?_
        refine LW.strAdd rfl rfl (by simp only [List.length_cons, List.length_nil]; omega) rfl ?_
        refine LW.move rfl rfl ?_
        refine LW.strAdd rfl rfl (by simp only [List.length_append, List.length_cons, List.length_nil]; omega) rfl ?_
        refine LW.assign rfl rfl ?_
        refine LW.nil ?_
        refine NW.block ?_
        refine NW.then_ ?_
        refine CW.region ?_
        refine LW.add ((i + 1 : Int)) rfl rfl (by first | rfl | exact wr64 (by omega) (by omega) (by omega)) rfl ?_
        refine LW.move rfl rfl ?_
        refine LW.nil ?_
        refine NW.meet ((i + 1, la.getD i [] ++ [58, 32] ++ tx, v', ch', .nilIface)) ?j2 ?e2 ?h2
        case j2 => exact ⟨⟨hin, by simp only [List.length_append, List.length_cons, List.length_nil]; omega, .inr ⟨Nat.succ_pos _, rfl⟩, la.getD i [] :: ws, by simp [hwl], by simpa [Nat.add_comm] using ho'⟩, by dsimp only; omega⟩
        case e2 => repeat (first | exact Env.Le.nil _ | refine Env.Le.cons rfl ?_)
        case h2 => repeat (first | exact Sub.heap_nil _ | exact Sub.refl _ | refine Sub.heap_cons (Take.none _) ?_ | refine Sub.heap_cons (by repeat (first | exact Take.head _ _ | apply Take.tail)) ?_)
    · have hin : i = la.length := by have := of_decide_eq_false hc36; omega
      refine CW.exit ?_
      refine NW.then_exit ?_
      refine NW.then_exit ?_
      refine NW.block_exit ?_
      refine NW.then_ ?_
      refine CW.seq ?_
      refine CW.seq ?_
      refine CW.region ?_
      refine LW.move rfl rfl ?_
      refine LW.eql true rfl rfl (beq_iff_eq.2 (by omega)) rfl ?_
      refine LW.nil ?_
      refine NW.then_ ?_
      refine CW.cond_true rfl ?_
      refine CW.seq ?_
      refine CW.region ?_
      rcases hev with ⟨hz, rfl⟩ | ⟨hz, rfl⟩
      · refine LW.move rfl rfl ?_
        refine LW.lenSlice rfl Tryf.underlying22 rfl ?_
        refine LW.eql true rfl rfl (beq_iff_eq.2 (by omega)) rfl ?_
        refine LW.move rfl rfl ?_
        refine LW.off 64 rfl rfl rfl rfl ?_
        refine LW.off 64 rfl rfl rfl rfl ?_
        refine LW.off 64 rfl rfl rfl rfl ?_
        refine LW.offU 67 rfl rfl rfl ?_
        refine LW.offU 67 rfl rfl rfl ?_
        refine LW.offU 67 rfl rfl rfl ?_
        refine LW.off 64 rfl rfl rfl rfl ?_
        refine LW.off 64 rfl rfl rfl rfl ?_
        refine LW.offU 72 rfl rfl rfl ?_
        refine LW.offU 72 rfl rfl rfl ?_
        refine LW.offU 72 rfl rfl rfl ?_
        refine LW.offU 72 rfl rfl rfl ?_
        refine LW.off 64 rfl rfl rfl rfl ?_
        refine LW.off 64 rfl rfl rfl rfl ?_
        refine LW.offU 78 rfl rfl rfl ?_
        refine LW.offU 78 rfl rfl rfl ?_
        refine LW.off 64 rfl rfl rfl rfl ?_
        refine LW.pickT rfl rfl rfl ?_
        refine LW.assign rfl rfl ?_
        refine LW.nil ?_
        refine NW.then_ ?_
        refine CW.ret ?_
        refine NW.then_ret ?_
        refine NW.ret1 rfl rfl ⟨_, ⟨rfl, rfl⟩, ?_⟩
        exact Sub.nil _
      · refine LW.move rfl rfl ?_
        refine LW.lenSlice rfl Tryf.underlying22 rfl ?_
        refine LW.eql false rfl rfl (beq_eq_false_iff_ne.2 (by omega)) rfl ?_
        refine LW.move rfl rfl ?_
        refine LW.on 64 rfl rfl ?_
        refine LW.move rfl rfl ?_
        refine LW.on 64 rfl rfl ?_
        refine LW.ifaceNil _ rfl Tryf.underlying26 (.inl ⟨rfl, rfl⟩) rfl ?_
        refine LW.on 64 rfl rfl ?_
        refine LW.move rfl rfl ?_
        refine LW.on 67 rfl rfl ?_
        refine LW.move rfl rfl ?_
        refine LW.on 67 rfl rfl ?_
        refine LW.call (c_Code_nil W B) Tryf.func9 rfl FactsLawFAll0.fname9 ⟨rfl, trivial⟩ (Take.none _) rfl ?_
        rintro _ _ ⟨rfl, rfl⟩
        refine LW.on 67 rfl rfl ?_
        refine LW.eql true rfl rfl (beq_iff_eq.2 (by omega)) rfl ?_
        refine LW.on 64 rfl rfl ?_
        refine LW.pickT rfl rfl rfl ?_
        refine LW.on 64 rfl rfl ?_
        refine LW.move rfl rfl ?_
        refine LW.on 72 rfl rfl ?_
        refine LW.move rfl rfl ?_
        refine LW.on 72 rfl rfl ?_
        refine LW.call (c_Where_nil W B) Tryf.func8 rfl FactsLawFAll0.fname8 ⟨rfl, trivial⟩ (Take.none _) rfl ?_
        rintro _ _ ⟨rfl, rfl⟩
        refine LW.on 72 rfl rfl ?_
        refine LW.lenSlice rfl Tryf.underlying22 rfl ?_
        refine LW.on 72 rfl rfl ?_
        refine LW.eql true rfl rfl (beq_iff_eq.2 (by omega)) rfl ?_
        refine LW.on 64 rfl rfl ?_
        refine LW.pickT rfl rfl rfl ?_
        refine LW.on 64 rfl rfl ?_
        refine LW.move rfl rfl ?_
        refine LW.on 78 rfl rfl ?_
        refine LW.move rfl rfl ?_
        refine LW.on 78 rfl rfl ?_
        refine LW.call (c_FIs_nil W B) Tryf.func10 rfl FactsLawFAll0.fname10 ⟨rfl, rfl, trivial⟩ (Take.none _) rfl ?_
        rintro _ _ ⟨rfl, rfl⟩
        refine LW.on 64 rfl rfl ?_
        refine LW.pickT rfl rfl rfl ?_
        refine LW.pickF rfl rfl rfl ?_
        refine LW.assign rfl rfl ?_
        refine LW.nil ?_
        refine NW.then_ ?_
        refine CW.ret ?_
        refine NW.then_ret ?_
        refine NW.ret1 rfl rfl ⟨_, ⟨rfl, rfl⟩, ?_⟩
        exact Sub.nil _
end
end Go.Proofs.YtemdebmfdhamgaaFmt
