/-
  BinAll, walked.
-/
import Derived.Test.YtmgpldgldgdenaaDoorLawText
import Derived.Test.YtmgpldgldgdenaaDoorRef2
import Derived.Test.YtmgpldgldgdenaaDoorAllDef
import Derived.Test.YtmgpldgldgdenaaDoorCut
import Derived.Test.YtmgpldgldgdenaaDoorOld
namespace Go.Proofs.YtmgpldgldgdenaaDoor
open Go.RowKit
namespace FactsLawAll
theorem fname16 : (Tryd.f16.name == "runtime.NumGoroutine") = false := by kernel_rfl
theorem fname24 : (Tryd.f24.name == "runtime.NumGoroutine") = false := by kernel_rfl
theorem fname25 : (Tryd.f25.name == "runtime.NumGoroutine") = false := by kernel_rfl
theorem fname26 : (Tryd.f26.name == "runtime.NumGoroutine") = false := by kernel_rfl
theorem fname27 : (Tryd.f27.name == "runtime.NumGoroutine") = false := by kernel_rfl
theorem fname28 : (Tryd.f28.name == "runtime.NumGoroutine") = false := by kernel_rfl
theorem fname29 : (Tryd.f29.name == "runtime.NumGoroutine") = false := by kernel_rfl
theorem fname30 : (Tryd.f30.name == "runtime.NumGoroutine") = false := by kernel_rfl
theorem fname31 : (Tryd.f31.name == "runtime.NumGoroutine") = false := by kernel_rfl
theorem fname32 : (Tryd.f32.name == "runtime.NumGoroutine") = false := by kernel_rfl
theorem fname33 : (Tryd.f33.name == "runtime.NumGoroutine") = false := by kernel_rfl
theorem fname34 : (Tryd.f34.name == "runtime.NumGoroutine") = false := by kernel_rfl
theorem fname35 : (Tryd.f35.name == "runtime.NumGoroutine") = false := by kernel_rfl
theorem info2 : (Tryd.prog.info? 2).map (fun i => (i.zero, i.size, i.bytes)) = some (some (.int .i64 0), 1, 8) := by kernel_rfl
theorem info26 : (Tryd.prog.info? 26).map (fun i => (i.zero, i.size, i.bytes)) = some (some (.slice none 0 0), 1, 24) := by kernel_rfl
theorem info5 : (Tryd.prog.info? 5).map (fun i => (i.zero, i.size, i.bytes)) = some (some (.int .u8 0), 1, 1) := by kernel_rfl
theorem ixs22 : (Tryd.prog.info? 4).map (·.size) = some 1 := by kernel_rfl
theorem ixs36 : (Tryd.prog.info? 2).map (·.size) = some 1 := by kernel_rfl
theorem ixs37 : (Tryd.prog.info? 9).map (·.size) = some 1 := by kernel_rfl
theorem ixs51 : (Tryd.prog.info? 26).map (·.size) = some 1 := by kernel_rfl
theorem mixed : Tryd.prog.follows .mixedOrders = true := by kernel_rfl
theorem one2 : oneB Tryd.prog 2 = true := by kernel_rfl
theorem one26 : oneB Tryd.prog 26 = true := by kernel_rfl
theorem one4 : oneB Tryd.prog 4 = true := by kernel_rfl
theorem one9 : oneB Tryd.prog 9 = true := by kernel_rfl
theorem szt5 : (Tryd.prog.info? 5).map (·.size) = some 1 := by kernel_rfl
theorem zero39 : (Tryd.prog.info? 39).bind (·.zero) = some (.agg #[.slice none 0 0]) := by kernel_rfl
end FactsLawAll
section
variable (W : World) (B : Nat)
theorem ref_GetInt' (src : List Row) (A : Option Addr) (cp : Nat) (bs : List UInt8) (hsrc : Src W B src A (bs.map u8v)) (hb : bs.length ≤ 1000000000) (n k : Int) (hg : gotZ bs = (n, k)) :
    Spec Tryd.prog W B 35 [.slice A bs.length cp] src (fun v post => v = .tuple #[.int .i64 n, .int .i64 k] ∧ post = src) := by
  have := ref_GetInt W B src A cp bs hsrc hb
  rwa [hg] at this
set_option maxHeartbeats 4000000 in
theorem law_BinAll (h0 : 0 < B) (hg : W.cell? ⟨0, 0, none⟩ = some (rty 80)) (A : Option Addr) (cp : Nat) (ns : List Int) (hA : Src W B [] A (ns.map i64v)) (hIa : ∀ n ∈ ns, I64 n)
    (A1 : Option Addr) (cp1 : Nat) (ss : List (List UInt8)) (hA1 : Src W B [] A1 (ss.map strV)) (cut0 : Int) (A2 : Option Addr) (cp2 : Nat) (raw : List UInt8) (hac2 : raw.length ≤ cp2) (hA2 : Src W B [] A2 (raw.map u8v)) (hn2 : A2 = none → raw.length = 0)
    (A3 : Option Addr) (cp3 : Nat) (kinds : List Bool) (hA3 : Src W B [] A3 (kinds.map .bool)) :
    Spec Tryd.prog W B 4 [.slice A ns.length cp, .slice A1 ss.length cp1, .int .i64 cut0, .slice A2 raw.length cp2, .slice A3 kinds.length cp3] [] (fun v post => v = .bool true ∧ post = []) := by
  refine Spec.enter ([]) Tryd.func4 rfl Tryd.ntmps4 rfl (by first | rfl | simp) (fun w0 => ?_)
  refine CW.seq ?_
  refine CW.region ?_
  refine LW.assign rfl rfl ?_
  refine LW.nil ?_
  refine NW.then_ ?_
  refine CW.seq ?_
  refine CW.region ?_
  refine LW.call (law_begun W B h0 hg) Tryd.func16 rfl FactsLawAll.fname16 trivial (Take.none _) rfl ?_
  rintro _ _ ⟨rfl, rfl⟩
  refine LW.assign rfl rfl ?_
  refine LW.nil ?_
  refine NW.then_ ?_
  refine CW.seq ?_
  refine CW.seq ?_
  refine CW.region ?_
  refine LW.move rfl rfl ?_
  refine LW.not (false) rfl (rfl) rfl ?_
  refine LW.nil ?_
  refine NW.then_ ?_
  refine CW.cond_false rfl ?_
  refine CW.skip ?_
  refine NW.then_ ?_
  refine CW.seq ?_
  refine CW.region ?_
  refine LW.alloc FactsLawAll.zero39 rfl ?_
  intro ba12
  refine LW.nil ?_
  refine NW.then_ ?_
  refine CW.seq ?_
  refine CW.region ?_
  refine LW.assign rfl rfl ?_
  refine LW.nil ?_
  refine NW.then_ ?_
  refine CW.cut (fun st : List Int × Value × List Row × Value × List Row => [(13, st.2.2.2.1), (12, .pointer (some ⟨ba12, 0, none⟩)), (4, .slice A3 kinds.length cp3), (3, .slice A2 raw.length cp2), (2, .int .i64 cut0), (1, .slice A1 ss.length cp1), (0, .slice A ns.length cp)]) (fun st => [[cr ba12 39 [st.2.1]], st.2.2.1, st.2.2.2.2]) (fun st => st.1 = ns.take 12 ∧ OwnB st.2.1 (encs st.1) st.2.2.1 ∧ OwnB st.2.2.2.1 (encs st.1) st.2.2.2.2) ?cut11_1 ?cut11_2
  case cut11_1 =>
    refine CW.seq ?_
    refine CW.region ?_
    refine LW.assign rfl rfl ?_
    refine LW.nil ?_
    refine NW.then_ ?_
    refine CW.block ?_
    refine CW.loop (fun st : Nat × Value × List Row × Value × List Row => [(14, .int .i64 (st.1 : Int)), (13, st.2.2.2.1), (12, .pointer (some ⟨ba12, 0, none⟩)), (4, .slice A3 kinds.length cp3), (3, .slice A2 raw.length cp2), (2, .int .i64 cut0), (1, .slice A1 ss.length cp1), (0, .slice A ns.length cp)]) (fun st => [[cr ba12 39 [st.2.1]], st.2.2.1, st.2.2.2.2]) (fun st => st.1 ≤ 12 ∧ st.1 ≤ ns.length ∧ OwnB st.2.1 (encs (ns.take st.1)) st.2.2.1 ∧ OwnB st.2.2.2.1 (encs (ns.take st.1)) st.2.2.2.2) (fun st => 12 - st.1) (0, .slice none 0 0, [], .slice none 0 0, []) ?st7_j ?st7_e ?st7_h ?st7_r
    case st7_j => exact ⟨by omega, by omega, OwnB.nil, OwnB.nil⟩
    case st7_e => repeat (first | exact Env.Le.nil _ | refine Env.Le.cons rfl ?_)
    case st7_h => repeat (first | exact Sub.heap_nil _ | exact Sub.refl _ | refine Sub.heap_cons (by repeat (first | exact Take.head _ _ | apply Take.tail)) ?_)
    case st7_r =>
      rintro ⟨i, v, chw, x, chx⟩ ⟨hi12, hin, hov, hox⟩; dsimp only at hi12 hin hov hox
      try dsimp only
      refine CW.seq ?_
      refine CW.seq ?_
      refine CW.region ?_
      refine LW.move rfl rfl ?_
      refine LW.move rfl rfl ?_
      refine LW.lenSlice rfl Tryd.underlying36 rfl ?_
      by_cases hil : i < ns.length
      · refine LW.lss true rfl rfl (decide_eq_true (by omega)) rfl ?_
        refine LW.move rfl rfl ?_
        refine LW.on 36 rfl rfl ?_
        refine LW.move rfl rfl ?_
        refine LW.on 36 rfl rfl ?_
        refine LW.lss _ rfl rfl rfl rfl ?_
        refine LW.pickT rfl rfl rfl ?_
        refine LW.nil ?_
        refine NW.then_ ?_
        refine CW.cond rfl (fun hc39 => ?_) (fun hc39 => ?_)
        · replace hc39 := of_decide_eq_true hc39
          try dsimp only at hc39
          have hi : i < 12 := by omega
          obtain ⟨a, rfl⟩ : ∃ a, A = some a := hA.some (by rw [List.length_map]; omega)
          have hgi : (ns.map i64v)[i]? = some (i64v (ns.getD i 0)) := by simp [List.getD, List.getElem?_eq_getElem hil]
          have hI : I64 (ns.getD i 0) := hIa _ (List.mem_of_getElem? (show ns[i]? = some (ns.getD i 0) by simp [List.getD, List.getElem?_eq_getElem hil]))
          have hes := encs_succ ns i hil
          have hel := encs_len (ns.take i)
          rw [List.length_take] at hel
          generalize ns.getD i 0 = n at hgi hI hes
          have hzl := sizeZ_le n
          have hen : encs [n] = encZ n := by simp [encs]
          refine CW.skip ?_
          refine NW.then_ ?_
          refine CW.seq ?_
          refine CW.block ?_
          refine CW.seq ?_
          refine CW.region ?_
          refine LW.move rfl rfl ?_
          refine LW.move rfl rfl ?_
          refine LW.indexAt rfl rfl Tryd.underlying36 FactsLawAll.ixs36 (by omega) (by omega) rfl ?_
          refine LW.loadRd (v := .int .i64 n) rfl (hA.rd (Take.none _)) (by simpa [i64v] using hgi) FactsLawAll.one2 rfl ?_
          refine LW.buildSlice (vs := [_]) ⟨rfl, trivial⟩ rfl (by intro v hv; simp at hv; subst hv; rfl) Tryd.underlying36 FactsLawAll.info2 rfl (by decide) (by decide) rfl ?_
          intro bs46
          refine LW.call (bin_WInt W B ba12 v (encs (ns.take i)) chw hov [n] (by intro m hm; simp at hm; subst hm; exact hI) [cr bs46 2 [.int .i64 n]] (some ⟨bs46, 0, none⟩) 1 (Src.row (fun j v hj => by rw [Nat.zero_add]; exact hj)) (by simp only [List.length_singleton]; omega)) Tryd.func24 rfl FactsLawAll.fname24 ⟨rfl, rfl, trivial⟩ (Take.both (by repeat (first | exact Take.head _ _ | apply Take.tail)) (Take.both (by repeat (first | exact Take.head _ _ | apply Take.tail)) (by repeat (first | exact Take.head _ _ | apply Take.tail)))) rfl ?_
          rintro _ _ ⟨rfl, v1, chw1, hov1, rfl⟩; rw [hen] at hov1; refine LW.split2 (LW.split2p ?_)
          refine LW.nil ?_
          refine NW.then_ ?_
          refine CW.region ?_
          refine LW.move rfl rfl ?_
          refine LW.move rfl rfl ?_
          refine LW.move rfl rfl ?_
          refine LW.indexAt rfl rfl Tryd.underlying36 FactsLawAll.ixs36 (by omega) (by omega) rfl ?_
          refine LW.loadRd (v := .int .i64 n) rfl (hA.rd (Take.none _)) (by simpa [i64v] using hgi) FactsLawAll.one2 rfl ?_
          refine LW.call (ref_Int W B n hI) Tryd.func25 rfl FactsLawAll.fname25 ⟨rfl, trivial⟩ (Take.none _) rfl ?_
          rintro v4 _ ⟨ch4, ho4, rfl⟩; obtain ⟨A4, cp4, rfl, hA4, _⟩ := OwnS.val ho4
          refine LW.append ((encZ n).map u8v) rfl rfl Tryd.underlying26 Tryd.underlying26 (.inr ⟨_, rfl⟩) FactsLawAll.info5 rfl (hox) (by repeat (first | exact Take.head _ _ | apply Take.tail)) (fun _ => lenOf_slice _ _ _ _) (first_rd ((OwnS.src (W := W) (B := B) ho4).rd (by repeat (first | exact Take.head _ _ | apply Take.tail))) (by simp) hA4) (by simp) (u8vs_one _) (by rw [encZ_len]; omega) (by rw [encZ_len]; omega) rfl ?_
          intro x1 chx1 hox1; replace hox1 := OwnB.app hox1 rfl rfl
          refine LW.assign rfl rfl ?_
          refine LW.nil ?_
          refine NW.block ?_
          refine NW.then_ ?_
          refine CW.region ?_
          refine LW.move rfl rfl ?_
          refine LW.add64 rfl rfl (by omega) (by omega) rfl ?_
          refine LW.assign rfl rfl ?_
          refine LW.nil ?_
          refine NW.meet ((i + 1, v1, chw1, x1, chx1)) ?j1 ?e1 ?h1
          case j1 => exact ⟨⟨by omega, by omega, by rw [hes]; exact hov1, by rw [hes]; exact hox1⟩, by dsimp only; omega⟩
          case e1 => repeat (first | exact Env.Le.nil _ | refine Env.Le.cons rfl ?_)
          case h1 => repeat (first | exact Sub.heap_nil _ | exact Sub.refl _ | refine Sub.heap_cons (by repeat (first | exact Take.head _ _ | apply Take.tail)) ?_)
        · replace hc39 := of_decide_eq_false hc39
          try dsimp only at hc39
          refine CW.exit ?_
          refine NW.then_exit ?_
          refine NW.then_exit ?_
          refine NW.block_exit ?_
          refine NW.meet ((ns.take i, v, chw, x, chx)) ?j2 ?e2 ?h2
          case j2 => exact ⟨by have hmi : i = min 12 ns.length := (by omega); rw [hmi, List.take_eq_take_iff]; simp, hov, hox⟩
          case e2 => repeat (first | exact Env.Le.nil _ | refine Env.Le.cons rfl ?_)
          case h2 => repeat (first | exact Sub.heap_nil _ | exact Sub.refl _ | refine Sub.heap_cons (by repeat (first | exact Take.head _ _ | apply Take.tail)) ?_)
      · refine LW.lss false rfl rfl (decide_eq_false (by omega)) rfl ?_
        refine LW.move rfl rfl ?_
        refine LW.off 36 rfl rfl rfl rfl ?_
        refine LW.off 36 rfl rfl rfl rfl ?_
        refine LW.pickF rfl rfl rfl ?_
        refine LW.nil ?_
        refine NW.then_ ?_
        refine CW.cond_false rfl ?_
        refine CW.exit ?_
        refine NW.then_exit ?_
        refine NW.then_exit ?_
        refine NW.block_exit ?_
        refine NW.meet ((ns.take i, v, chw, x, chx)) ?j3 ?e3 ?h3
        case j3 => exact ⟨by have hmi : i = min 12 ns.length := (by omega); rw [hmi, List.take_eq_take_iff]; simp, hov, hox⟩
        case e3 => repeat (first | exact Env.Le.nil _ | refine Env.Le.cons rfl ?_)
        case h3 => repeat (first | exact Sub.heap_nil _ | exact Sub.refl _ | refine Sub.heap_cons (by repeat (first | exact Take.head _ _ | apply Take.tail)) ?_)
  case cut11_2 =>
    rintro ⟨la, v, chw, x, chx⟩ ⟨hla, hov, hox⟩; dsimp only at hla hov hox
    try dsimp only
    refine CW.cut (fun st : List (List UInt8) × Value × List Row × Value × List Row => [(13, st.2.2.2.1), (12, .pointer (some ⟨ba12, 0, none⟩)), (4, .slice A3 kinds.length cp3), (3, .slice A2 raw.length cp2), (2, .int .i64 cut0), (1, .slice A1 ss.length cp1), (0, .slice A ns.length cp)]) (fun st => [[cr ba12 39 [st.2.1]], st.2.2.1, st.2.2.2.2]) (fun st => st.1 = (ss.map (List.take 30)).take 5 ∧ OwnB st.2.1 (encs la ++ encTs st.1) st.2.2.1 ∧ OwnB st.2.2.2.1 (encs la ++ encTs st.1) st.2.2.2.2) ?cut16_1 ?cut16_2
    case cut16_1 =>
      refine CW.seq ?_
      have hla12 : la.length ≤ 12 := by rw [hla, List.length_take]; omega
      have hea := encs_len la
      refine CW.region ?_
      refine LW.assign rfl rfl ?_
      refine LW.nil ?_
      refine NW.then_ ?_
      refine CW.block ?_
      refine CW.loop (fun st : Nat × Value × List Row × Value × List Row => [(15, .int .i64 (st.1 : Int)), (13, st.2.2.2.1), (12, .pointer (some ⟨ba12, 0, none⟩)), (4, .slice A3 kinds.length cp3), (3, .slice A2 raw.length cp2), (2, .int .i64 cut0), (1, .slice A1 ss.length cp1), (0, .slice A ns.length cp)]) (fun st => [[cr ba12 39 [st.2.1]], st.2.2.1, st.2.2.2.2]) (fun st => st.1 ≤ 5 ∧ st.1 ≤ ss.length ∧ OwnB st.2.1 (encs la ++ encTs ((ss.map (List.take 30)).take st.1)) st.2.2.1 ∧ OwnB st.2.2.2.1 (encs la ++ encTs ((ss.map (List.take 30)).take st.1)) st.2.2.2.2) (fun st => 5 - st.1) (0, v, chw, x, chx) ?st12_j ?st12_e ?st12_h ?st12_r
      case st12_j => exact ⟨by omega, by omega, by simpa [encTs] using hov, by simpa [encTs] using hox⟩
      case st12_e => repeat (first | exact Env.Le.nil _ | refine Env.Le.cons rfl ?_)
      case st12_h => repeat (first | exact Sub.heap_nil _ | exact Sub.refl _ | refine Sub.heap_cons (by repeat (first | exact Take.head _ _ | apply Take.tail)) ?_)
      case st12_r =>
        rintro ⟨i, v, chw, x, chx⟩ ⟨hi5, hin, hov, hox⟩; dsimp only at hi5 hin hov hox
        try dsimp only
        refine CW.seq ?_
        refine CW.seq ?_
        refine CW.region ?_
        refine LW.move rfl rfl ?_
        refine LW.move rfl rfl ?_
        refine LW.lenSlice rfl Tryd.underlying37 rfl ?_
        by_cases hil : i < ss.length
        · refine LW.lss true rfl rfl (decide_eq_true (by omega)) rfl ?_
          refine LW.move rfl rfl ?_
          refine LW.on 59 rfl rfl ?_
          refine LW.move rfl rfl ?_
          refine LW.on 59 rfl rfl ?_
          refine LW.lss _ rfl rfl rfl rfl ?_
          refine LW.pickT rfl rfl rfl ?_
          refine LW.nil ?_
          refine NW.then_ ?_
          refine CW.cond rfl (fun hc62 => ?_) (fun hc62 => ?_)
          · replace hc62 := of_decide_eq_true hc62
            try dsimp only at hc62
            have hi : i < 5 := by omega
            obtain ⟨a, rfl⟩ : ∃ a, A1 = some a := hA1.some (by rw [List.length_map]; omega)
            have hgi : (ss.map strV)[i]? = some (strV (ss.getD i [])) := by simp [List.getD, List.getElem?_eq_getElem hil]
            have hes := encTs_succ (ss.map (List.take 30)) i (by rw [List.length_map]; exact hil)
            rw [show (ss.map (List.take 30)).getD i [] = (ss.getD i []).take 30 from by simp [List.getD, List.getElem?_eq_getElem hil]] at hes
            have hel := encTs_len ((ss.map (List.take 30)).take i) (fun s hs => by obtain ⟨y, _, rfl⟩ := List.mem_map.1 (List.mem_of_mem_take hs); rw [List.length_take]; omega)
            rw [List.length_take, List.length_map] at hel
            generalize ss.getD i [] = s0 at hgi hes
            have hs30 : (s0.take 30).length ≤ 30 := by rw [List.length_take]; omega
            have hzl := sizeZ_le ((s0.take 30).length : Int)
            have hetl : (encT (s0.take 30)).length ≤ 39 := by rw [encT, List.length_append, encZ_len]; omega
            refine CW.skip ?_
            refine NW.then_ ?_
            refine CW.seq ?_
            refine CW.block ?_
            refine CW.seq ?_
            refine CW.region ?_
            refine LW.move rfl rfl ?_
            refine LW.move rfl rfl ?_
            refine LW.indexAt rfl rfl Tryd.underlying37 FactsLawAll.ixs37 (by omega) (by omega) rfl ?_
            refine LW.loadRd (v := strV s0) rfl (hA1.rd (Take.none _)) (by simpa using hgi) FactsLawAll.one9 rfl ?_
            refine LW.call (law_Text W B s0 30) Tryd.func27 rfl FactsLawAll.fname27 ⟨rfl, rfl, trivial⟩ (Take.none _) rfl ?_
            rintro _ _ ⟨rfl, rfl⟩
            refine LW.call (bin_WText W B ba12 v (encs la ++ encTs ((ss.map (List.take 30)).take i)) chw hov (s0.take 30) (by rw [List.length_append]; omega)) Tryd.func26 rfl FactsLawAll.fname26 ⟨rfl, rfl, trivial⟩ (Take.both (by repeat (first | exact Take.head _ _ | apply Take.tail)) (by repeat (first | exact Take.head _ _ | apply Take.tail))) rfl ?_
            rintro _ _ ⟨rfl, v1, chw1, hov1, rfl⟩; refine LW.split2 ?_
            refine LW.nil ?_
            refine NW.then_ ?_
            refine CW.region ?_
            refine LW.move rfl rfl ?_
            refine LW.move rfl rfl ?_
            refine LW.move rfl rfl ?_
            refine LW.indexAt rfl rfl Tryd.underlying37 FactsLawAll.ixs37 (by omega) (by omega) rfl ?_
            refine LW.loadRd (v := strV s0) rfl (hA1.rd (Take.none _)) (by simpa using hgi) FactsLawAll.one9 rfl ?_
            refine LW.call (law_Text W B s0 30) Tryd.func27 rfl FactsLawAll.fname27 ⟨rfl, rfl, trivial⟩ (Take.none _) rfl ?_
            rintro _ _ ⟨rfl, rfl⟩
            refine LW.call (ref_Text W B (s0.take 30) (by omega)) Tryd.func28 rfl FactsLawAll.fname28 ⟨rfl, trivial⟩ (Take.none _) rfl ?_
            rintro v4 _ ⟨ch4, ho4, rfl⟩; obtain ⟨A4, cp4, rfl, hA4, _⟩ := OwnS.val ho4
            refine LW.append ((encT (s0.take 30)).map u8v) rfl rfl Tryd.underlying26 Tryd.underlying26 (.inr ⟨_, rfl⟩) FactsLawAll.info5 rfl (hox) (by repeat (first | exact Take.head _ _ | apply Take.tail)) (fun _ => lenOf_slice _ _ _ _) (first_rd ((OwnS.src (W := W) (B := B) ho4).rd (by repeat (first | exact Take.head _ _ | apply Take.tail))) (by simp) hA4) (by simp) (u8vs_one _) (by rw [List.length_append]; omega) (by rw [List.length_append]; omega) rfl ?_
            intro x1 chx1 hox1; replace hox1 := OwnB.app hox1 rfl rfl
            refine LW.assign rfl rfl ?_
            refine LW.nil ?_
            refine NW.block ?_
            refine NW.then_ ?_
            refine CW.region ?_
            refine LW.move rfl rfl ?_
            refine LW.add64 rfl rfl (by omega) (by omega) rfl ?_
            refine LW.assign rfl rfl ?_
            refine LW.nil ?_
            refine NW.meet ((i + 1, v1, chw1, x1, chx1)) ?j4 ?e4 ?h4
            case j4 => exact ⟨⟨by omega, by omega, by rw [hes, encT, ← List.append_assoc, ← List.append_assoc]; exact hov1, by rw [hes, ← List.append_assoc]; exact hox1⟩, by dsimp only; omega⟩
            case e4 => repeat (first | exact Env.Le.nil _ | refine Env.Le.cons rfl ?_)
            case h4 => repeat (first | exact Sub.heap_nil _ | exact Sub.refl _ | refine Sub.heap_cons (by repeat (first | exact Take.head _ _ | apply Take.tail)) ?_)
          · replace hc62 := of_decide_eq_false hc62
            try dsimp only at hc62
            refine CW.exit ?_
            refine NW.then_exit ?_
            refine NW.then_exit ?_
            refine NW.block_exit ?_
            refine NW.meet (((ss.map (List.take 30)).take i, v, chw, x, chx)) ?j5 ?e5 ?h5
            case j5 => exact ⟨by have hmi : i = min 5 (ss.map (List.take 30)).length := (by rw [List.length_map]; omega); rw [hmi, List.take_eq_take_iff]; simp, hov, hox⟩
            case e5 => repeat (first | exact Env.Le.nil _ | refine Env.Le.cons rfl ?_)
            case h5 => repeat (first | exact Sub.heap_nil _ | exact Sub.refl _ | refine Sub.heap_cons (by repeat (first | exact Take.head _ _ | apply Take.tail)) ?_)
        · refine LW.lss false rfl rfl (decide_eq_false (by omega)) rfl ?_
          refine LW.move rfl rfl ?_
          refine LW.off 59 rfl rfl rfl rfl ?_
          refine LW.off 59 rfl rfl rfl rfl ?_
          refine LW.pickF rfl rfl rfl ?_
          refine LW.nil ?_
          refine NW.then_ ?_
          refine CW.cond_false rfl ?_
          refine CW.exit ?_
          refine NW.then_exit ?_
          refine NW.then_exit ?_
          refine NW.block_exit ?_
          refine NW.meet (((ss.map (List.take 30)).take i, v, chw, x, chx)) ?j6 ?e6 ?h6
          case j6 => exact ⟨by have hmi : i = min 5 (ss.map (List.take 30)).length := (by rw [List.length_map]; omega); rw [hmi, List.take_eq_take_iff]; simp, hov, hox⟩
          case e6 => repeat (first | exact Env.Le.nil _ | refine Env.Le.cons rfl ?_)
          case h6 => repeat (first | exact Sub.heap_nil _ | exact Sub.refl _ | refine Sub.heap_cons (by repeat (first | exact Take.head _ _ | apply Take.tail)) ?_)
    case cut16_2 =>
      rintro ⟨lt, v, chw, x, chx⟩ ⟨hlt, hov, hox⟩; dsimp only at hlt hov hox
      try dsimp only
      refine CW.seq ?_
      have hlt30 : ∀ s ∈ lt, s.length ≤ 30 := fun s hs => by rw [hlt] at hs; obtain ⟨y, _, rfl⟩ := List.mem_map.1 (List.mem_of_mem_take hs); rw [List.length_take]; omega
      have hlt5 : lt.length ≤ 5 := by rw [hlt, List.length_take]; omega
      have het := encTs_len lt hlt30
      have hla12 : la.length ≤ 12 := by rw [hla, List.length_take]; omega
      have hea := encs_len la
      have hbl : (encs la ++ encTs lt).length ≤ 500 := by rw [List.length_append]; omega
      generalize hbs : encs la ++ encTs lt = bs at hov hox hbl
      obtain ⟨Ax, cpx, rfl, hAx, hcx⟩ := OwnS.val hox
      refine CW.region ?_
      refine LW.call (bin_WBytes W B ba12 v bs chw hov (by omega)) Tryd.func29 rfl FactsLawAll.fname29 ⟨rfl, trivial⟩ (Take.both (by repeat (first | exact Take.head _ _ | apply Take.tail)) (by repeat (first | exact Take.head _ _ | apply Take.tail))) rfl ?_
      rintro v3 _ ⟨chb, hob, rfl⟩; obtain ⟨Ab, cpb, rfl, hAb, hcb⟩ := OwnS.val hob; refine LW.split2 (LW.split2p ?_)
      refine LW.assign rfl rfl ?_
      refine LW.nil ?_
      refine NW.then_ ?_
      refine CW.seq ?_
      refine CW.seq ?_
      refine CW.region ?_
      refine LW.move rfl rfl ?_
      refine LW.bytesStr (bs) rfl Tryd.underlying26 Tryd.underlying5 Tryd.underlying9 ((OwnS.src (W := W) (B := B) hob).rd (by repeat (first | exact Take.head _ _ | apply Take.tail))) (rfl) rfl ?_
      refine LW.move rfl rfl ?_
      refine LW.bytesStr (bs) rfl Tryd.underlying26 Tryd.underlying5 Tryd.underlying9 ((OwnS.src (W := W) (B := B) hox).rd (by repeat (first | exact Take.head _ _ | apply Take.tail))) (rfl) rfl ?_
      refine LW.strNeq (false) rfl rfl Tryd.underlying9 (decide_eq_false (by simp)) rfl ?_
      refine LW.nil ?_
      refine NW.then_ ?_
      refine CW.cond_false rfl ?_
      refine CW.skip ?_
      refine NW.then_ ?_
      refine CW.seq ?_
      refine CW.region ?_
      refine LW.move rfl rfl ?_
      refine LW.call (bin_NewReader W B chb Ab cpb bs (OwnS.src hob) hAb (by omega)) Tryd.func30 rfl FactsLawAll.fname30 ⟨rfl, trivial⟩ (by repeat (first | exact Take.head _ _ | apply Take.tail)) rfl ?_
      rintro _ _ ⟨rp, rv, rch, rfl, hrd, rfl⟩; refine LW.split2 ?_
      refine LW.assign rfl rfl ?_
      refine LW.nil ?_
      refine NW.then_ ?_
      refine CW.cut (fun st : Value => [(17, .pointer (some ⟨rp, 0, none⟩)), (16, .slice Ab bs.length cpb), (4, .slice A3 kinds.length cp3), (3, .slice A2 raw.length cp2), (2, .int .i64 cut0), (1, .slice A1 ss.length cp1)]) (fun st => [[cr rp 96 [st, .bool false]] ++ rch, chb]) (fun st => RdS W B st (encTs lt) rch) ?cut25_1 ?cut25_2
      case cut25_1 =>
        refine CW.seq ?_
        refine CW.region ?_
        refine LW.assign rfl rfl ?_
        refine LW.nil ?_
        refine NW.then_ ?_
        refine CW.block ?_
        refine CW.loop (fun st : Nat × Value => [(18, .int .i64 (st.1 : Int)), (17, .pointer (some ⟨rp, 0, none⟩)), (16, .slice Ab bs.length cpb), (4, .slice A3 kinds.length cp3), (3, .slice A2 raw.length cp2), (2, .int .i64 cut0), (1, .slice A1 ss.length cp1), (0, .slice A ns.length cp)]) (fun st => [[cr rp 96 [st.2, .bool false]] ++ rch, chb]) (fun st => st.1 ≤ la.length ∧ RdS W B st.2 (encs (la.drop st.1) ++ encTs lt) rch) (fun st => la.length - st.1) (0, rv) ?st21_j ?st21_e ?st21_h ?st21_r
        case st21_j => exact ⟨Nat.zero_le _, by simpa [hbs] using hrd⟩
        case st21_e => repeat (first | exact Env.Le.nil _ | refine Env.Le.cons rfl ?_)
        case st21_h => repeat (first | exact Sub.heap_nil _ | exact Sub.refl _ | refine Sub.heap_cons (by repeat (first | exact Take.head _ _ | apply Take.tail)) ?_)
        case st21_r =>
          rintro ⟨i, v⟩ ⟨hi, hrd⟩; dsimp only at hi hrd
          try dsimp only
          refine CW.seq ?_
          refine CW.seq ?_
          have hlal : la.length = min 12 ns.length := by rw [hla, List.length_take]
          refine CW.region ?_
          refine LW.move rfl rfl ?_
          refine LW.move rfl rfl ?_
          refine LW.lenSlice rfl Tryd.underlying36 rfl ?_
          by_cases hil : i < ns.length
          · refine LW.lss true rfl rfl (decide_eq_true (by omega)) rfl ?_
            refine LW.move rfl rfl ?_
            refine LW.on 91 rfl rfl ?_
            refine LW.move rfl rfl ?_
            refine LW.on 91 rfl rfl ?_
            refine LW.lss _ rfl rfl rfl rfl ?_
            refine LW.pickT rfl rfl rfl ?_
            refine LW.nil ?_
            refine NW.then_ ?_
            refine CW.cond rfl (fun hc94 => ?_) (fun hc94 => ?_)
            · replace hc94 := of_decide_eq_true hc94
              try dsimp only at hc94
              have hin : i < la.length := by omega
              obtain ⟨a, rfl⟩ : ∃ a, A = some a := hA.some (by rw [List.length_map]; omega)
              have hgi : (ns.map i64v)[i]? = some (i64v (la.getD i 0)) := by
                rw [hla] at hin ⊢
                simp [List.getD, List.getElem?_eq_getElem hin, List.getElem?_eq_getElem hil]
              have hI : I64 (la.getD i 0) := hIa _ (by rw [hla] at hin ⊢; exact List.mem_of_mem_take (List.mem_of_getElem? (show (ns.take 12)[i]? = some ((ns.take 12).getD i 0) by simp [List.getD, List.getElem?_eq_getElem hin])))
              have hdr : la.drop i = la.getD i 0 :: la.drop (i + 1) := by rw [List.drop_eq_getElem_cons hin]; simp [List.getD, List.getElem?_eq_getElem hin]
              rw [hdr, show encs (la.getD i 0 :: la.drop (i + 1)) ++ encTs lt = encZ (la.getD i 0) ++ (encs (la.drop (i + 1)) ++ encTs lt) from by simp [encs]] at hrd
              have hgz := getZ_enc hI (encs (la.drop (i + 1)) ++ encTs lt)
              have hdz : (encZ (la.getD i 0) ++ (encs (la.drop (i + 1)) ++ encTs lt)).drop (sizeZ (la.getD i 0) + 1) = encs (la.drop (i + 1)) ++ encTs lt := by rw [← encZ_len, List.drop_left]
              have hrl : (encs (la.drop (i + 1)) ++ encTs lt).length ≤ 500 := by have h9 := encs_len (la.drop (i + 1)); rw [List.length_drop] at h9; rw [List.length_append]; omega
              have hzl := sizeZ_le (la.getD i 0)
              generalize hre : encs (la.drop (i + 1)) ++ encTs lt = rest at hrd hgz hdz hrl
              generalize la.getD i 0 = n at hgi hI hrd hgz hdz hzl
              refine CW.skip ?_
              refine NW.then_ ?_
              refine CW.seq ?_
              refine CW.block ?_
              refine CW.seq ?_
              refine CW.drawH [] FactsLawAll.mixed ?_
              refine AW.takes [0, 2, 3, 4, 5] 7 (by kernel_rfl) (by kernel_rfl) rfl (by repeat (first | exact PO.body | refine PO.then_ ?_ | refine PO.block ?_ | refine PO.noGoto ?_)) (fun _ s => Held.of s (by repeat (first | exact Sub.nil _ | refine Sub.cons1 (by repeat (first | exact Take.head _ _ | apply Take.tail)) ?_))) ?_
              refine TW.take rfl (Yl.move rfl) rfl ?_
              refine TW.take rfl (Yl.move rfl) rfl ?_
              refine TW.take rfl (Yl.move rfl) rfl ?_
              refine TW.take rfl (Yl.indexAt rfl rfl Tryd.underlying36 FactsLawAll.ixs36 (by omega) (by omega)) rfl ?_
              refine TW.take rfl (Yl.loadSrc (v := .int .i64 n) rfl (hA) (by simpa [i64v] using hgi) FactsLawAll.one2) rfl ?_
              refine TW.nil ?_
              refine AW.act 1 (by kernel_rfl) rfl ?_
              refine LW.call (bin_RInt_some W B rp v (encZ n ++ rest) rch hrd (by rw [List.length_append, encZ_len]; omega) n _ hgz) Tryd.func31 rfl FactsLawAll.fname31 ⟨rfl, trivial⟩ ((by repeat (first | exact Take.head _ _ | apply Take.tail))) rfl ?_
              rintro _ _ ⟨rfl, v', hrd2, rfl⟩; rw [hdz] at hrd2
              refine LW.nil ?_
              refine AW.back (fun _ s => Held.of s (by repeat (first | exact Sub.nil _ | refine Sub.cons1 (by repeat (first | exact Take.head _ _ | apply Take.tail)) ?_))) ?_
              refine AW.takes [6, 7, 8] 3 (by kernel_rfl) (by kernel_rfl) rfl (by repeat (first | exact PO.body | refine PO.then_ ?_ | refine PO.block ?_ | refine PO.noGoto ?_)) (fun _ s => Held.of s (by repeat (first | exact Sub.nil _ | refine Sub.cons1 (by repeat (first | exact Take.head _ _ | apply Take.tail)) ?_))) ?_
              refine TW.take rfl (Yl.neq false rfl rfl (by simp)) rfl ?_
              refine TW.take rfl (Yl.move rfl) rfl ?_
              refine TW.on 104 rfl rfl rfl (Yl.move rfl) rfl ?_
              refine TW.nil ?_
              refine AW.act 9 (by kernel_rfl) rfl ?_
              refine LW.on 104 rfl rfl ?_
              refine LW.call (bin_Err W B rp v' false rch) Tryd.func32 rfl FactsLawAll.fname32 ⟨rfl, trivial⟩ ((by repeat (first | exact Take.head _ _ | apply Take.tail))) rfl ?_
              rintro _ _ ⟨rfl, rfl⟩
              refine LW.nil ?_
              refine AW.back (fun _ s => Held.of s (by repeat (first | exact Sub.nil _ | refine Sub.cons1 (by repeat (first | exact Take.head _ _ | apply Take.tail)) ?_))) ?_
              refine AW.takes [10, 11] 0 (by kernel_rfl) (by kernel_rfl) rfl (by repeat (first | exact PO.body | refine PO.then_ ?_ | refine PO.block ?_ | refine PO.noGoto ?_)) (fun _ s => Held.of s (by repeat (first | exact Sub.nil _ | refine Sub.cons1 (by repeat (first | exact Take.head _ _ | apply Take.tail)) ?_))) ?_
              refine TW.on 104 rfl rfl rfl (Yl.neq false rfl rfl (rfl)) rfl ?_
              refine TW.take rfl (Yl.pickF rfl rfl) rfl ?_
              refine TW.nil ?_
              refine AW.done (by kernel_rfl) ?_
              refine NW.then_ ?_
              refine CW.cond_false rfl ?_
              refine CW.skip ?_
              refine NW.block ?_
              refine NW.then_ ?_
              refine CW.region ?_
              refine LW.move rfl rfl ?_
              refine LW.add64 rfl rfl (by omega) (by omega) rfl ?_
              refine LW.assign rfl rfl ?_
              refine LW.nil ?_
              refine NW.meet ((i + 1, v')) ?j7 ?e7 ?h7
              case j7 => exact ⟨⟨hin, by show RdS W B v' (encs (la.drop (i + 1)) ++ encTs lt) rch; rw [hre]; exact hrd2⟩, by dsimp only; omega⟩
              case e7 => repeat (first | exact Env.Le.nil _ | refine Env.Le.cons rfl ?_)
              case h7 => repeat (first | exact Sub.heap_nil _ | exact Sub.refl _ | refine Sub.heap_cons (by repeat (first | exact Take.head _ _ | apply Take.tail)) ?_)
            · replace hc94 := of_decide_eq_false hc94
              try dsimp only at hc94
              refine CW.exit ?_
              refine NW.then_exit ?_
              refine NW.then_exit ?_
              refine NW.block_exit ?_
              refine NW.meet (v) ?j8 ?e8 ?h8
              case j8 => have he : i = la.length := (by omega); rw [he, List.drop_length] at hrd; exact hrd
              case e8 => repeat (first | exact Env.Le.nil _ | refine Env.Le.cons rfl ?_)
              case h8 => repeat (first | exact Sub.heap_nil _ | exact Sub.refl _ | refine Sub.heap_cons (by repeat (first | exact Take.head _ _ | apply Take.tail)) ?_)
          · refine LW.lss false rfl rfl (decide_eq_false (by omega)) rfl ?_
            refine LW.move rfl rfl ?_
            refine LW.off 91 rfl rfl rfl rfl ?_
            refine LW.off 91 rfl rfl rfl rfl ?_
            refine LW.pickF rfl rfl rfl ?_
            refine LW.nil ?_
            refine NW.then_ ?_
            refine CW.cond_false rfl ?_
            refine CW.exit ?_
            refine NW.then_exit ?_
            refine NW.then_exit ?_
            refine NW.block_exit ?_
            refine NW.meet (v) ?j9 ?e9 ?h9
            case j9 => have he : i = la.length := (by omega); rw [he, List.drop_length] at hrd; exact hrd
            case e9 => repeat (first | exact Env.Le.nil _ | refine Env.Le.cons rfl ?_)
            case h9 => repeat (first | exact Sub.heap_nil _ | exact Sub.refl _ | refine Sub.heap_cons (by repeat (first | exact Take.head _ _ | apply Take.tail)) ?_)
      case cut25_2 =>
        intro v hrd
        try dsimp only
        refine CW.cut (fun st : Value => [(17, .pointer (some ⟨rp, 0, none⟩)), (16, .slice Ab bs.length cpb), (4, .slice A3 kinds.length cp3), (3, .slice A2 raw.length cp2), (2, .int .i64 cut0)]) (fun st => [[cr rp 96 [st, .bool false]] ++ rch, chb]) (fun st => RdS W B st [] rch) ?cut30_1 ?cut30_2
        case cut30_1 =>
          refine CW.seq ?_
          refine CW.region ?_
          refine LW.assign rfl rfl ?_
          refine LW.nil ?_
          refine NW.then_ ?_
          refine CW.block ?_
          refine CW.loop (fun st : Nat × Value => [(19, .int .i64 (st.1 : Int)), (17, .pointer (some ⟨rp, 0, none⟩)), (16, .slice Ab bs.length cpb), (4, .slice A3 kinds.length cp3), (3, .slice A2 raw.length cp2), (2, .int .i64 cut0), (1, .slice A1 ss.length cp1)]) (fun st => [[cr rp 96 [st.2, .bool false]] ++ rch, chb]) (fun st => st.1 ≤ lt.length ∧ RdS W B st.2 (encTs (lt.drop st.1)) rch) (fun st => lt.length - st.1) (0, v) ?st26_j ?st26_e ?st26_h ?st26_r
          case st26_j => exact ⟨Nat.zero_le _, hrd⟩
          case st26_e => repeat (first | exact Env.Le.nil _ | refine Env.Le.cons rfl ?_)
          case st26_h => repeat (first | exact Sub.heap_nil _ | exact Sub.refl _ | refine Sub.heap_cons (by repeat (first | exact Take.head _ _ | apply Take.tail)) ?_)
          case st26_r =>
            rintro ⟨i, v⟩ ⟨hi, hrd⟩; dsimp only at hi hrd
            try dsimp only
            refine CW.seq ?_
            refine CW.seq ?_
            have hltl : lt.length = min 5 ss.length := by rw [hlt, List.length_take, List.length_map]
            refine CW.region ?_
            refine LW.move rfl rfl ?_
            refine LW.move rfl rfl ?_
            refine LW.lenSlice rfl Tryd.underlying37 rfl ?_
            by_cases hil : i < ss.length
            · refine LW.lss true rfl rfl (decide_eq_true (by omega)) rfl ?_
              refine LW.move rfl rfl ?_
              refine LW.on 113 rfl rfl ?_
              refine LW.move rfl rfl ?_
              refine LW.on 113 rfl rfl ?_
              refine LW.lss _ rfl rfl rfl rfl ?_
              refine LW.pickT rfl rfl rfl ?_
              refine LW.nil ?_
              refine NW.then_ ?_
              refine CW.cond rfl (fun hc116 => ?_) (fun hc116 => ?_)
              · replace hc116 := of_decide_eq_true hc116
                try dsimp only at hc116
                have hin : i < lt.length := by omega
                obtain ⟨a, rfl⟩ : ∃ a, A1 = some a := hA1.some (by rw [List.length_map]; omega)
                have hgi : (ss.map strV)[i]? = some (strV (ss.getD i [])) := by simp [List.getD, List.getElem?_eq_getElem hil]
                have hgt : lt.getD i [] = (ss.getD i []).take 30 := by rw [hlt] at hin ⊢; rw [List.length_take, List.length_map] at hin; simp [List.getD, List.getElem?_eq_getElem hil, show i < 5 by omega]
                have hdr : lt.drop i = lt.getD i [] :: lt.drop (i + 1) := by rw [List.drop_eq_getElem_cons hin]; simp [List.getD, List.getElem?_eq_getElem hin]
                have hs30 : (lt.getD i []).length ≤ 30 := hlt30 _ (List.mem_of_getElem? (show lt[i]? = some (lt.getD i []) by simp [List.getD, List.getElem?_eq_getElem hin]))
                rw [hdr, show encTs (lt.getD i [] :: lt.drop (i + 1)) = encZ ((lt.getD i []).length : Int) ++ (lt.getD i [] ++ encTs (lt.drop (i + 1))) from by simp [encTs, encT]] at hrd
                have hgz := getZ_enc (n := ((lt.getD i []).length : Int)) ⟨by omega, by omega⟩ (lt.getD i [] ++ encTs (lt.drop (i + 1)))
                have hdz : (encZ ((lt.getD i []).length : Int) ++ (lt.getD i [] ++ encTs (lt.drop (i + 1)))).drop (sizeZ ((lt.getD i []).length : Int) + 1) = lt.getD i [] ++ encTs (lt.drop (i + 1)) := by rw [← encZ_len, List.drop_left]
                have hrl : (encTs (lt.drop (i + 1))).length ≤ 500 := by have h9 := encTs_len (lt.drop (i + 1)) (fun s hs => hlt30 s (List.mem_of_mem_drop hs)); rw [List.length_drop] at h9; omega
                have hzl := sizeZ_le ((lt.getD i []).length : Int)
                generalize hre : encTs (lt.drop (i + 1)) = rest at hrd hgz hdz hrl
                generalize lt.getD i [] = s at hgt hs30 hrd hgz hdz hzl
                generalize ss.getD i [] = s0 at hgi hgt
                refine CW.skip ?_
                refine NW.then_ ?_
                refine CW.seq ?_
                refine CW.block ?_
                refine CW.seq ?_
                refine CW.drawH [] FactsLawAll.mixed ?_
                refine AW.takes [0, 2, 3, 4, 5] 8 (by kernel_rfl) (by kernel_rfl) rfl (by repeat (first | exact PO.body | refine PO.then_ ?_ | refine PO.block ?_ | refine PO.noGoto ?_)) (fun _ s => Held.of s (by repeat (first | exact Sub.nil _ | refine Sub.cons1 (by repeat (first | exact Take.head _ _ | apply Take.tail)) ?_))) ?_
                refine TW.take rfl (Yl.move rfl) rfl ?_
                refine TW.take rfl (Yl.move rfl) rfl ?_
                refine TW.take rfl (Yl.move rfl) rfl ?_
                refine TW.take rfl (Yl.indexAt rfl rfl Tryd.underlying37 FactsLawAll.ixs37 (by omega) (by omega)) rfl ?_
                refine TW.take rfl (Yl.loadSrc (v := strV s0) rfl (hA1) (by simpa using hgi) FactsLawAll.one9) rfl ?_
                refine TW.nil ?_
                refine AW.act 1 (by kernel_rfl) rfl ?_
                refine LW.call (bin_RText_ok W B rp v (encZ (s.length : Int) ++ (s ++ rest)) rch hrd (by simp only [List.length_append, encZ_len]; omega) s.length _ hgz 30 (by omega) (by rw [hdz, List.length_append]; omega)) Tryd.func33 rfl FactsLawAll.fname33 ⟨rfl, rfl, trivial⟩ ((by repeat (first | exact Take.head _ _ | apply Take.tail))) rfl ?_
                rintro _ _ ⟨rfl, v', hrd2, rfl⟩; rw [hdz, List.take_left]; rw [hdz, List.drop_left] at hrd2
                refine LW.nil ?_
                refine AW.back (fun _ s => Held.of s (by repeat (first | exact Sub.nil _ | refine Sub.cons1 (by repeat (first | exact Take.head _ _ | apply Take.tail)) ?_))) ?_
                refine AW.act 6 (by kernel_rfl) rfl ?_
                refine LW.call (law_Text W B s0 30) Tryd.func27 rfl FactsLawAll.fname27 ⟨rfl, rfl, trivial⟩ (Take.none _) rfl ?_
                rintro _ _ ⟨rfl, rfl⟩
                refine LW.nil ?_
                refine AW.back (fun _ s => Held.of s (by repeat (first | exact Sub.nil _ | refine Sub.cons1 (by repeat (first | exact Take.head _ _ | apply Take.tail)) ?_))) ?_
                refine AW.takes [7, 8, 9] 3 (by kernel_rfl) (by kernel_rfl) rfl (by repeat (first | exact PO.body | refine PO.then_ ?_ | refine PO.block ?_ | refine PO.noGoto ?_)) (fun _ s => Held.of s (by repeat (first | exact Sub.nil _ | refine Sub.cons1 (by repeat (first | exact Take.head _ _ | apply Take.tail)) ?_))) ?_
                refine TW.take rfl (Yl.strNeq (false) rfl rfl Tryd.underlying9 (decide_eq_false (by rw [← hgt]; simp))) rfl ?_
                refine TW.take rfl (Yl.move rfl) rfl ?_
                refine TW.on 127 rfl rfl rfl (Yl.move rfl) rfl ?_
                refine TW.nil ?_
                refine AW.act 10 (by kernel_rfl) rfl ?_
                refine LW.on 127 rfl rfl ?_
                refine LW.call (bin_Err W B rp v' false rch) Tryd.func32 rfl FactsLawAll.fname32 ⟨rfl, trivial⟩ ((by repeat (first | exact Take.head _ _ | apply Take.tail))) rfl ?_
                rintro _ _ ⟨rfl, rfl⟩
                refine LW.nil ?_
                refine AW.back (fun _ s => Held.of s (by repeat (first | exact Sub.nil _ | refine Sub.cons1 (by repeat (first | exact Take.head _ _ | apply Take.tail)) ?_))) ?_
                refine AW.takes [11, 12] 0 (by kernel_rfl) (by kernel_rfl) rfl (by repeat (first | exact PO.body | refine PO.then_ ?_ | refine PO.block ?_ | refine PO.noGoto ?_)) (fun _ s => Held.of s (by repeat (first | exact Sub.nil _ | refine Sub.cons1 (by repeat (first | exact Take.head _ _ | apply Take.tail)) ?_))) ?_
                refine TW.on 127 rfl rfl rfl (Yl.neq false rfl rfl (rfl)) rfl ?_
                refine TW.take rfl (Yl.pickF rfl rfl) rfl ?_
                refine TW.nil ?_
                refine AW.done (by kernel_rfl) ?_
                refine NW.then_ ?_
                refine CW.cond_false rfl ?_
                refine CW.skip ?_
                refine NW.block ?_
                refine NW.then_ ?_
                refine CW.region ?_
                refine LW.move rfl rfl ?_
                refine LW.add64 rfl rfl (by omega) (by omega) rfl ?_
                refine LW.assign rfl rfl ?_
                refine LW.nil ?_
                refine NW.meet ((i + 1, v')) ?j10 ?e10 ?h10
                case j10 => exact ⟨⟨hin, by show RdS W B v' (encTs (lt.drop (i + 1))) rch; rw [hre]; exact hrd2⟩, by dsimp only; omega⟩
                case e10 => repeat (first | exact Env.Le.nil _ | refine Env.Le.cons rfl ?_)
                case h10 => repeat (first | exact Sub.heap_nil _ | exact Sub.refl _ | refine Sub.heap_cons (by repeat (first | exact Take.head _ _ | apply Take.tail)) ?_)
              · replace hc116 := of_decide_eq_false hc116
                try dsimp only at hc116
                refine CW.exit ?_
                refine NW.then_exit ?_
                refine NW.then_exit ?_
                refine NW.block_exit ?_
                refine NW.meet (v) ?j11 ?e11 ?h11
                case j11 => have he : i = lt.length := (by omega); rw [he, List.drop_length] at hrd; exact hrd
                case e11 => repeat (first | exact Env.Le.nil _ | refine Env.Le.cons rfl ?_)
                case h11 => repeat (first | exact Sub.heap_nil _ | exact Sub.refl _ | refine Sub.heap_cons (by repeat (first | exact Take.head _ _ | apply Take.tail)) ?_)
            · refine LW.lss false rfl rfl (decide_eq_false (by omega)) rfl ?_
              refine LW.move rfl rfl ?_
              refine LW.off 113 rfl rfl rfl rfl ?_
              refine LW.off 113 rfl rfl rfl rfl ?_
              refine LW.pickF rfl rfl rfl ?_
              refine LW.nil ?_
              refine NW.then_ ?_
              refine CW.cond_false rfl ?_
              refine CW.exit ?_
              refine NW.then_exit ?_
              refine NW.then_exit ?_
              refine NW.block_exit ?_
              refine NW.meet (v) ?j12 ?e12 ?h12
              case j12 => have he : i = lt.length := (by omega); rw [he, List.drop_length] at hrd; exact hrd
              case e12 => repeat (first | exact Env.Le.nil _ | refine Env.Le.cons rfl ?_)
              case h12 => repeat (first | exact Sub.heap_nil _ | exact Sub.refl _ | refine Sub.heap_cons (by repeat (first | exact Take.head _ _ | apply Take.tail)) ?_)
        case cut30_2 =>
          intro v hrd
          try dsimp only
          refine CW.seq ?_
          refine CW.seq ?_
          refine CW.region ?_
          refine LW.move rfl rfl ?_
          refine LW.call (bin_End W B rp v false [] rch hrd) Tryd.func34 rfl FactsLawAll.fname34 ⟨rfl, trivial⟩ ((by repeat (first | exact Take.head _ _ | apply Take.tail))) rfl ?_
          rintro _ _ ⟨rfl, rfl⟩
          refine LW.neq false rfl rfl (rfl) rfl ?_
          refine LW.move rfl rfl ?_
          refine LW.on 135 rfl rfl ?_
          refine LW.move rfl rfl ?_
          refine LW.on 135 rfl rfl ?_
          refine LW.call (bin_RInt_none W B rp v [] rch hrd (by simp) (by simp [getZ])) Tryd.func31 rfl FactsLawAll.fname31 ⟨rfl, trivial⟩ ((by repeat (first | exact Take.head _ _ | apply Take.tail))) rfl ?_
          rintro _ _ ⟨rfl, rfl⟩
          refine LW.on 135 rfl rfl ?_
          refine LW.neq false rfl rfl (rfl) rfl ?_
          refine LW.pickF rfl rfl rfl ?_
          refine LW.move rfl rfl ?_
          refine LW.on 140 rfl rfl ?_
          refine LW.move rfl rfl ?_
          refine LW.on 140 rfl rfl ?_
          refine LW.call (bin_Err W B rp v true rch) Tryd.func32 rfl FactsLawAll.fname32 ⟨rfl, trivial⟩ ((by repeat (first | exact Take.head _ _ | apply Take.tail))) rfl ?_
          rintro _ _ ⟨rfl, rfl⟩
          refine LW.on 140 rfl rfl ?_
          refine LW.neq false rfl rfl (rfl) rfl ?_
          refine LW.pickF rfl rfl rfl ?_
          refine LW.nil ?_
          refine NW.then_ ?_
          refine CW.cond_false rfl ?_
          refine CW.skip ?_
          refine NW.then_ ?_
          refine CW.seq ?_
          have hmr := take_min' raw 60
          have hsr := hA2.sub 60
          rw [← List.map_take] at hsr
          have hrl : (raw.take 60).length ≤ raw.length := by rw [List.length_take]; omega
          have hr60 : (raw.take 60).length ≤ 60 := by rw [List.length_take]; omega
          generalize raw.take 60 = r60 at hmr hsr hrl hr60
          refine CW.region ?_
          refine LW.move rfl rfl ?_
          refine LW.move rfl rfl ?_
          refine LW.lenSlice rfl Tryd.underlying26 rfl ?_
          refine LW.min2 ((r60.length : Int)) rfl rfl (hmr) rfl ?_
          refine LW.cutTo (r60.length) rfl rfl Tryd.underlying26 FactsLawAll.szt5 (hrl) (hac2) rfl ?_
          refine LW.assign rfl rfl ?_
          refine LW.nil ?_
          refine NW.then_ ?_
          refine CW.seq ?_
          refine CW.seq ?_
          obtain ⟨cut, hcut, hcl, hc1, hc2⟩ := mod_pos cut0 ((bs.length : Int) + 1) (by omega) (by omega)
          have hsb := (OwnS.src (W := W) (B := B) hob).sub cut
          rw [← List.map_take] at hsb
          have hbt : (bs.take cut).length = cut := by rw [List.length_take]; omega
          generalize bs.take cut = bt at hsb hbt
          refine CW.region ?_
          refine LW.move rfl rfl ?_
          refine LW.move rfl rfl ?_
          refine LW.move rfl rfl ?_
          refine LW.move rfl rfl ?_
          refine LW.lenSlice rfl Tryd.underlying26 rfl ?_
          refine LW.add64 rfl rfl (by omega) (by omega) rfl ?_
          refine LW.rem (cut0.tmod ((bs.length : Int) + 1)) rfl rfl (by omega) (rfl) rfl ?_
          refine LW.move rfl rfl ?_
          refine LW.lenSlice rfl Tryd.underlying26 rfl ?_
          refine LW.add (cut0.tmod ((bs.length : Int) + 1) + (bs.length : Int)) rfl rfl (by first | rfl | exact wr64 (by omega) (by omega) (by omega)) rfl ?_
          refine LW.add (cut0.tmod ((bs.length : Int) + 1) + (bs.length : Int) + 1) rfl rfl (by first | rfl | exact wr64 (by omega) (by omega) (by omega)) rfl ?_
          refine LW.move rfl rfl ?_
          refine LW.lenSlice rfl Tryd.underlying26 rfl ?_
          refine LW.add64 rfl rfl (by omega) (by omega) rfl ?_
          refine LW.rem ((bt.length : Int)) rfl rfl (by omega) ((by rw [hbt, Int.add_assoc]; exact hcut)) rfl ?_
          refine LW.cutTo (bt.length) rfl rfl Tryd.underlying26 FactsLawAll.szt5 (by omega) (by omega) rfl ?_
          refine LW.buildSlice (vs := [_, _]) ⟨rfl, rfl, trivial⟩ rfl (by intro v hv; simp at hv; rcases hv with rfl | rfl <;> rfl) Tryd.underlying51 FactsLawAll.info26 rfl (by decide) (by decide) rfl ?_
          intro bs166
          have hcs : ∀ j, j < 2 → ∃ Ac cpc, ∃ cs : List UInt8, [Value.slice A2 r60.length cp2, Value.slice Ab bt.length cpb][j]? = some (.slice Ac cs.length cpc) ∧ cs.length ≤ cpc ∧ cs.length ≤ 1000 ∧ Src W B chb Ac (cs.map u8v) ∧ (Ac = none → cs.length = 0) := fun j hj => by
            rcases Nat.lt_or_ge j 1 with h | h
            · obtain rfl : j = 0 := by omega
              exact ⟨A2, cp2, r60, rfl, by omega, by omega, hsr.mono0, fun h => by have := hn2 h; omega⟩
            · obtain rfl : j = 1 := by omega
              exact ⟨Ab, cpb, bt, rfl, by omega, by omega, hsb, fun h => by have := hAb h; omega⟩
          refine LW.lenSlice rfl Tryd.underlying51 rfl ?_
          refine LW.move rfl rfl ?_
          refine LW.nil ?_
          refine NW.then_ ?_
          refine CW.block ?_
          refine CW.loop (fun j : Nat => [(168, .int .i64 (j : Int)), (167, .int .i64 2), (166, .slice (some ⟨bs166, 0, none⟩) 2 2), (4, .slice A3 kinds.length cp3)]) (fun _ => [[cr bs166 26 [Value.slice A2 r60.length cp2, Value.slice Ab bt.length cpb]], chb]) (fun j => j ≤ 2) (fun j => 2 - j) 0 ?st34_j ?st34_e ?st34_h ?st34_r
          case st34_j => exact Nat.zero_le _
          case st34_e => repeat (first | exact Env.Le.nil _ | refine Env.Le.cons rfl ?_)
          case st34_h => repeat (first | exact Sub.heap_nil _ | exact Sub.refl _ | refine Sub.heap_cons (by repeat (first | exact Take.head _ _ | apply Take.tail)) ?_)
          case st34_r =>
            intro j hj
            try dsimp only
            refine CW.seq ?_
            refine CW.region ?_
            refine LW.lss _ rfl rfl rfl rfl ?_
            refine LW.nil ?_
            refine NW.then_ ?_
            refine CW.seq ?_
            refine CW.cond rfl (fun hc169 => ?_) (fun hc169 => ?_)
            · replace hc169 := of_decide_eq_true hc169
              try dsimp only at hc169
              have hj2 : j < 2 := by omega
              obtain ⟨Ac, cpc, cs, hrow, hcc, hcl2, hsc, hcn⟩ := hcs j hj2
              refine CW.skip ?_
              refine NW.then_ ?_
              refine CW.seq ?_
              refine CW.block ?_
              refine CW.seq ?_
              refine CW.region ?_
              refine LW.indexAddr (j) rfl rfl Tryd.underlying51 FactsLawAll.ixs51 (by omega) (by omega) (by simp) rfl ?_
              refine LW.load (v := .slice Ac cs.length cpc) rfl (by repeat (first | exact Take.head _ _ | apply Take.tail)) (by simpa using hrow) FactsLawAll.one26 rfl ?_
              refine LW.assign rfl rfl ?_
              refine LW.nil ?_
              refine NW.then_ ?_
              refine CW.seq ?_
              refine CW.region ?_
              refine LW.move rfl rfl ?_
              refine LW.call (bin_NewReader W B chb Ac cpc cs hsc hcn (by omega)) Tryd.func30 rfl FactsLawAll.fname30 ⟨rfl, trivial⟩ (by repeat (first | exact Take.head _ _ | apply Take.tail)) rfl ?_
              rintro _ _ ⟨rp, rv, rch, rfl, hrd, rfl⟩; refine LW.split2 ?_
              refine LW.assign rfl rfl ?_
              refine LW.assign rfl rfl ?_
              refine LW.assign rfl rfl ?_
              refine LW.nil ?_
              refine NW.then_ ?_
              refine CW.cut (fun st : Nat × Bool × Value => [(24, .bool st.2.1), (23, .int .i64 (st.1 : Int)), (22, .pointer (some ⟨rp, 0, none⟩)), (21, .slice Ac cs.length cpc), (168, .int .i64 (j : Int)), (167, .int .i64 2), (166, .slice (some ⟨bs166, 0, none⟩) 2 2), (4, .slice A3 kinds.length cp3)]) (fun st => [[cr rp 96 [st.2.2, .bool st.2.1]] ++ rch, chb, [cr bs166 26 [Value.slice A2 r60.length cp2, Value.slice Ab bt.length cpb]]]) (fun st => st.1 ≤ cs.length ∧ (st.2.1 = false → RdS W B st.2.2 (cs.drop st.1) rch)) ?cut53_1 ?cut53_2
              case cut53_1 =>
                refine CW.seq ?_
                refine CW.region ?_
                refine LW.assign rfl rfl ?_
                refine LW.nil ?_
                refine NW.then_ ?_
                refine CW.block ?_
                refine CW.loop (fun st : Nat × Nat × Bool × Value => [(25, .int .i64 (st.1 : Int)), (24, .bool st.2.2.1), (23, .int .i64 (st.2.1 : Int)), (22, .pointer (some ⟨rp, 0, none⟩)), (21, .slice Ac cs.length cpc), (168, .int .i64 (j : Int)), (167, .int .i64 2), (166, .slice (some ⟨bs166, 0, none⟩) 2 2), (4, .slice A3 kinds.length cp3)]) (fun st => [[cr rp 96 [st.2.2.2, .bool st.2.2.1]] ++ rch, chb, [cr bs166 26 [Value.slice A2 r60.length cp2, Value.slice Ab bt.length cpb]]]) (fun st => st.1 ≤ 20 ∧ st.2.1 ≤ cs.length ∧ (st.2.2.1 = false → RdS W B st.2.2.2 (cs.drop st.2.1) rch)) (fun st => 20 - st.1) (0, 0, false, rv) ?st38_j ?st38_e ?st38_h ?st38_r
                case st38_j => exact ⟨Nat.zero_le _, Nat.zero_le _, fun _ => hrd⟩
                case st38_e => repeat (first | exact Env.Le.nil _ | refine Env.Le.cons rfl ?_)
                case st38_h => repeat (first | exact Sub.heap_nil _ | exact Sub.refl _ | refine Sub.heap_cons (by repeat (first | exact Take.head _ _ | apply Take.tail)) ?_)
                case st38_r =>
                  rintro ⟨i, at', bad, v⟩ ⟨hi, hat, hbad⟩; dsimp only at hi hat hbad
                  try dsimp only
                  refine CW.seq ?_
                  refine CW.seq ?_
                  refine CW.region ?_
                  refine LW.move rfl rfl ?_
                  refine LW.move rfl rfl ?_
                  refine LW.lenSlice rfl Tryd.underlying22 rfl ?_
                  by_cases hik : i < kinds.length
                  · refine LW.lss true rfl rfl (decide_eq_true (by omega)) rfl ?_
                    refine LW.move rfl rfl ?_
                    refine LW.on 178 rfl rfl ?_
                    refine LW.move rfl rfl ?_
                    refine LW.on 178 rfl rfl ?_
                    refine LW.lss _ rfl rfl rfl rfl ?_
                    refine LW.pickT rfl rfl rfl ?_
                    refine LW.nil ?_
                    refine NW.then_ ?_
                    refine CW.cond rfl (fun hc181 => ?_) (fun hc181 => ?_)
                    · replace hc181 := of_decide_eq_true hc181
                      try dsimp only at hc181
                      have hi20 : i < 20 := by omega
                      obtain ⟨a3, rfl⟩ : ∃ a, A3 = some a := hA3.some (by rw [List.length_map]; omega)
                      have hki : (kinds.map Value.bool)[i]? = some (.bool (kinds.getD i false)) := by simp [List.getD, List.getElem?_eq_getElem hik]
                      generalize kinds.getD i false = kd at hki
                      have hsd := Src.cutA' hsc hcc at' hat
                      have hdl : (cs.drop at').length = cs.length - at' := List.length_drop
                      obtain ⟨gn, gk, hgot⟩ : ∃ n k, gotZ (cs.drop at') = (n, k) := ⟨_, _, rfl⟩
                      refine CW.skip ?_
                      refine NW.then_ ?_
                      refine CW.seq ?_
                      refine CW.block ?_
                      refine CW.seq ?_
                      refine CW.region ?_
                      cases kd
                      · refine LW.move rfl rfl ?_
                        cases bad
                        · refine LW.move rfl rfl ?_
                          rcases hgz : getZ (cs.drop at') with _ | ⟨gn', gm⟩
                          · obtain ⟨rfl, rfl⟩ := gotZ_none hgot hgz
                            refine LW.cut (at') (cs.length) (cpc) (some _) none none rfl Tryd.underlying26 FactsLawAll.szt5 (fun a hf => congrArg some (hf.eval rfl)) (fun a hf => rfl) (fun a hf => rfl) (.inr ⟨_, rfl⟩) (.inl ⟨rfl, rfl, rfl⟩) (.inl ⟨rfl, rfl⟩) (by omega) (by omega) (by omega) (by omega) rfl ?_
                            rw [← hdl]
                            refine LW.call (ref_GetInt' W B chb (cutA Ac cpc at' 1) (cpc - at') (cs.drop at') hsd (by omega) _ _ hgot) Tryd.func35 rfl FactsLawAll.fname35 ⟨rfl, trivial⟩ ((by repeat (first | exact Take.head _ _ | apply Take.tail))) rfl ?_
                            rintro _ _ ⟨rfl, rfl⟩
                            refine LW.move rfl rfl ?_
                            refine LW.extract rfl rfl rfl ?_
                            refine LW.extract rfl rfl rfl ?_
                            refine LW.assign rfl rfl ?_
                            refine LW.assign rfl rfl ?_
                            refine LW.nil ?_
                            refine NW.then_ ?_
                            refine CW.seq ?_
                            refine CW.region ?_
                            refine LW.assign rfl rfl ?_
                            refine LW.nil ?_
                            refine NW.then_ ?_
                            refine CW.seq ?_
                            refine CW.region ?_
                            refine LW.move rfl rfl ?_
                            refine LW.move rfl rfl ?_
                            refine LW.on 192 rfl rfl ?_
                            refine LW.move rfl rfl ?_
                            refine LW.on 192 rfl rfl ?_
                            refine LW.eql true rfl rfl (rfl) rfl ?_
                            refine LW.pickF rfl rfl rfl ?_
                            refine LW.assign rfl rfl ?_
                            refine LW.nil ?_
                            refine NW.then_ ?_
                            refine CW.seq ?_
                            refine CW.seq ?_
                            refine CW.region ?_
                            refine LW.move rfl rfl ?_
                            refine LW.not _ rfl rfl rfl ?_
                            refine LW.move rfl rfl ?_
                            refine LW.off 198 rfl rfl rfl rfl ?_
                            refine LW.off 198 rfl rfl rfl rfl ?_
                            refine LW.off 198 rfl rfl rfl rfl ?_
                            refine LW.off 198 rfl rfl rfl rfl ?_
                            refine LW.pickF rfl rfl rfl ?_
                            refine LW.nil ?_
                            refine NW.then_ ?_
                            refine CW.cond_false rfl ?_
                            refine CW.skip ?_
                            refine NW.then_ ?_
                            refine CW.seq ?_
                            refine CW.seq ?_
                            refine CW.region ?_
                            refine LW.move rfl rfl ?_
                            refine LW.nil ?_
                            refine NW.then_ ?_
                            refine CW.cond_true rfl ?_
                            refine CW.region ?_
                            refine LW.assign rfl rfl ?_
                            refine LW.assign rfl rfl ?_
                            refine LW.nil ?_
                            refine NW.then_ ?_
                            refine CW.seq ?_
                            refine CW.seq ?_
                            refine CW.region ?_
                            refine LW.move rfl rfl ?_
                            refine LW.move rfl rfl ?_
                            refine LW.indexAt rfl rfl Tryd.underlying22 FactsLawAll.ixs22 (by omega) (by omega) rfl ?_
                            refine LW.loadRd (v := .bool false) rfl (hA3.rd (Take.none _)) (by simpa using hki) FactsLawAll.one4 rfl ?_
                            refine LW.move rfl rfl ?_
                            refine LW.off 241 rfl rfl rfl rfl ?_
                            refine LW.off 241 rfl rfl rfl rfl ?_
                            refine LW.off 241 rfl rfl rfl rfl ?_
                            refine LW.off 241 rfl rfl rfl rfl ?_
                            refine LW.pickF rfl rfl rfl ?_
                            refine LW.move rfl rfl ?_
                            refine LW.on 247 rfl rfl ?_
                            refine LW.move rfl rfl ?_
                            refine LW.on 247 rfl rfl ?_
                            refine LW.move rfl rfl ?_
                            refine LW.on 247 rfl rfl ?_
                            refine LW.indexAt rfl rfl Tryd.underlying22 FactsLawAll.ixs22 (by omega) (by omega) rfl ?_
                            refine LW.on 247 rfl rfl ?_
                            refine LW.loadRd (v := .bool false) rfl (hA3.rd (Take.none _)) (by simpa using hki) FactsLawAll.one4 rfl ?_
                            refine LW.on 247 rfl rfl ?_
                            refine LW.not _ rfl rfl rfl ?_
                            refine LW.on 247 rfl rfl ?_
                            refine LW.move rfl rfl ?_
                            refine LW.on 253 rfl rfl ?_
                            refine LW.move rfl rfl ?_
                            refine LW.on 253 rfl rfl ?_
                            refine LW.call (bin_RInt_none W B rp v (cs.drop at') rch (hbad rfl) (by omega) hgz) Tryd.func31 rfl FactsLawAll.fname31 ⟨rfl, trivial⟩ ((by repeat (first | exact Take.head _ _ | apply Take.tail))) rfl ?_
                            rintro _ _ ⟨rfl, rfl⟩
                            refine LW.on 253 rfl rfl ?_
                            refine LW.move rfl rfl ?_
                            refine LW.on 253 rfl rfl ?_
                            refine LW.neq false rfl rfl (by simp) rfl ?_
                            refine LW.on 247 rfl rfl ?_
                            refine LW.pickT rfl rfl rfl ?_
                            refine LW.pickF rfl rfl rfl ?_
                            refine LW.move rfl rfl ?_
                            refine LW.on 260 rfl rfl ?_
                            refine LW.move rfl rfl ?_
                            refine LW.on 260 rfl rfl ?_
                            refine LW.call (bin_Err W B rp v true rch) Tryd.func32 rfl FactsLawAll.fname32 ⟨rfl, trivial⟩ ((by repeat (first | exact Take.head _ _ | apply Take.tail))) rfl ?_
                            rintro _ _ ⟨rfl, rfl⟩
                            refine LW.on 260 rfl rfl ?_
                            refine LW.eql true rfl rfl (rfl) rfl ?_
                            refine LW.on 260 rfl rfl ?_
                            refine LW.move rfl rfl ?_
                            refine LW.on 260 rfl rfl ?_
                            refine LW.boolNeq (false) rfl rfl Tryd.underlying4 (rfl) rfl ?_
                            refine LW.pickF rfl rfl rfl ?_
                            refine LW.nil ?_
                            refine NW.then_ ?_
                            refine CW.cond_false rfl ?_
                            refine CW.skip ?_
                            refine NW.then_ ?_
                            refine CW.region ?_
                            refine LW.move rfl rfl ?_
                            refine LW.move rfl rfl ?_
                            refine LW.add64 rfl rfl (by omega) (by omega) rfl ?_
                            refine LW.assign rfl rfl ?_
                            refine LW.nil ?_
                            refine NW.block ?_
                            refine NW.then_ ?_
                            refine CW.region ?_
                            refine LW.move rfl rfl ?_
                            refine LW.add64 rfl rfl (by omega) (by omega) rfl ?_
                            refine LW.assign rfl rfl ?_
                            refine LW.nil ?_
                            refine NW.meet ((i + 1, at', true, v)) ?j13 ?e13 ?h13
                            case j13 => exact ⟨⟨by omega, hat, fun h => by cases h⟩, by dsimp only; omega⟩
                            case e13 => repeat (first | exact Env.Le.nil _ | refine Env.Le.cons rfl ?_)
                            case h13 => repeat (first | exact Sub.heap_nil _ | exact Sub.refl _ | refine Sub.heap_cons (by repeat (first | exact Take.head _ _ | apply Take.tail)) ?_)
                          · obtain ⟨rfl, rfl⟩ := gotZ_some hgot hgz; obtain ⟨hgm1, hgm2, hgI⟩ := getZ_some hgz
                            refine LW.cut (at') (cs.length) (cpc) (some _) none none rfl Tryd.underlying26 FactsLawAll.szt5 (fun a hf => congrArg some (hf.eval rfl)) (fun a hf => rfl) (fun a hf => rfl) (.inr ⟨_, rfl⟩) (.inl ⟨rfl, rfl, rfl⟩) (.inl ⟨rfl, rfl⟩) (by omega) (by omega) (by omega) (by omega) rfl ?_
                            rw [← hdl]
                            refine LW.call (ref_GetInt' W B chb (cutA Ac cpc at' 1) (cpc - at') (cs.drop at') hsd (by omega) _ _ hgot) Tryd.func35 rfl FactsLawAll.fname35 ⟨rfl, trivial⟩ ((by repeat (first | exact Take.head _ _ | apply Take.tail))) rfl ?_
                            rintro _ _ ⟨rfl, rfl⟩
                            refine LW.move rfl rfl ?_
                            refine LW.extract rfl rfl rfl ?_
                            refine LW.extract rfl rfl rfl ?_
                            refine LW.assign rfl rfl ?_
                            refine LW.assign rfl rfl ?_
                            refine LW.nil ?_
                            refine NW.then_ ?_
                            refine CW.seq ?_
                            refine CW.region ?_
                            refine LW.assign rfl rfl ?_
                            refine LW.nil ?_
                            refine NW.then_ ?_
                            refine CW.seq ?_
                            refine CW.region ?_
                            refine LW.move rfl rfl ?_
                            refine LW.move rfl rfl ?_
                            refine LW.on 192 rfl rfl ?_
                            refine LW.move rfl rfl ?_
                            refine LW.on 192 rfl rfl ?_
                            refine LW.eql false rfl rfl (beq_eq_false_iff_ne.2 (by omega)) rfl ?_
                            refine LW.pickF rfl rfl rfl ?_
                            refine LW.assign rfl rfl ?_
                            refine LW.nil ?_
                            refine NW.then_ ?_
                            refine CW.seq ?_
                            refine CW.seq ?_
                            refine CW.region ?_
                            refine LW.move rfl rfl ?_
                            refine LW.not _ rfl rfl rfl ?_
                            refine LW.move rfl rfl ?_
                            refine LW.on 198 rfl rfl ?_
                            refine LW.move rfl rfl ?_
                            refine LW.on 198 rfl rfl ?_
                            refine LW.move rfl rfl ?_
                            refine LW.on 198 rfl rfl ?_
                            refine LW.indexAt rfl rfl Tryd.underlying22 FactsLawAll.ixs22 (by omega) (by omega) rfl ?_
                            refine LW.on 198 rfl rfl ?_
                            refine LW.loadRd (v := .bool false) rfl (hA3.rd (Take.none _)) (by simpa using hki) FactsLawAll.one4 rfl ?_
                            refine LW.pickT rfl rfl rfl ?_
                            refine LW.nil ?_
                            refine NW.then_ ?_
                            refine CW.cond_false rfl ?_
                            refine CW.skip ?_
                            refine NW.then_ ?_
                            refine CW.seq ?_
                            refine CW.seq ?_
                            refine CW.region ?_
                            refine LW.move rfl rfl ?_
                            refine LW.nil ?_
                            refine NW.then_ ?_
                            refine CW.cond_false rfl ?_
                            refine CW.skip ?_
                            refine NW.then_ ?_
                            refine CW.seq ?_
                            refine CW.seq ?_
                            refine CW.region ?_
                            refine LW.move rfl rfl ?_
                            refine LW.move rfl rfl ?_
                            refine LW.indexAt rfl rfl Tryd.underlying22 FactsLawAll.ixs22 (by omega) (by omega) rfl ?_
                            refine LW.loadRd (v := .bool false) rfl (hA3.rd (Take.none _)) (by simpa using hki) FactsLawAll.one4 rfl ?_
                            refine LW.move rfl rfl ?_
                            refine LW.off 241 rfl rfl rfl rfl ?_
                            refine LW.off 241 rfl rfl rfl rfl ?_
                            refine LW.off 241 rfl rfl rfl rfl ?_
                            refine LW.off 241 rfl rfl rfl rfl ?_
                            refine LW.pickF rfl rfl rfl ?_
                            refine LW.move rfl rfl ?_
                            refine LW.on 247 rfl rfl ?_
                            refine LW.move rfl rfl ?_
                            refine LW.on 247 rfl rfl ?_
                            refine LW.move rfl rfl ?_
                            refine LW.on 247 rfl rfl ?_
                            refine LW.indexAt rfl rfl Tryd.underlying22 FactsLawAll.ixs22 (by omega) (by omega) rfl ?_
                            refine LW.on 247 rfl rfl ?_
                            refine LW.loadRd (v := .bool false) rfl (hA3.rd (Take.none _)) (by simpa using hki) FactsLawAll.one4 rfl ?_
                            refine LW.on 247 rfl rfl ?_
                            refine LW.not _ rfl rfl rfl ?_
                            refine LW.on 247 rfl rfl ?_
                            refine LW.move rfl rfl ?_
                            refine LW.on 253 rfl rfl ?_
                            refine LW.move rfl rfl ?_
                            refine LW.on 253 rfl rfl ?_
                            refine LW.call (bin_RInt_some W B rp v (cs.drop at') rch (hbad rfl) (by omega) _ _ hgz) Tryd.func31 rfl FactsLawAll.fname31 ⟨rfl, trivial⟩ ((by repeat (first | exact Take.head _ _ | apply Take.tail))) rfl ?_
                            rintro _ _ ⟨rfl, v', hrd2, rfl⟩; rw [List.drop_drop] at hrd2
                            refine LW.on 253 rfl rfl ?_
                            refine LW.move rfl rfl ?_
                            refine LW.on 253 rfl rfl ?_
                            refine LW.neq false rfl rfl (by simp) rfl ?_
                            refine LW.on 247 rfl rfl ?_
                            refine LW.pickT rfl rfl rfl ?_
                            refine LW.pickF rfl rfl rfl ?_
                            refine LW.move rfl rfl ?_
                            refine LW.on 260 rfl rfl ?_
                            refine LW.move rfl rfl ?_
                            refine LW.on 260 rfl rfl ?_
                            refine LW.call (bin_Err W B rp v' false rch) Tryd.func32 rfl FactsLawAll.fname32 ⟨rfl, trivial⟩ ((by repeat (first | exact Take.head _ _ | apply Take.tail))) rfl ?_
                            rintro _ _ ⟨rfl, rfl⟩
                            refine LW.on 260 rfl rfl ?_
                            refine LW.eql false rfl rfl (rfl) rfl ?_
                            refine LW.on 260 rfl rfl ?_
                            refine LW.move rfl rfl ?_
                            refine LW.on 260 rfl rfl ?_
                            refine LW.boolNeq (false) rfl rfl Tryd.underlying4 (rfl) rfl ?_
                            refine LW.pickF rfl rfl rfl ?_
                            refine LW.nil ?_
                            refine NW.then_ ?_
                            refine CW.cond_false rfl ?_
                            refine CW.skip ?_
                            refine NW.then_ ?_
                            refine CW.region ?_
                            refine LW.move rfl rfl ?_
                            refine LW.move rfl rfl ?_
                            refine LW.add64 rfl rfl (by omega) (by omega) rfl ?_
                            refine LW.assign rfl rfl ?_
                            refine LW.nil ?_
                            refine NW.block ?_
                            refine NW.then_ ?_
                            refine CW.region ?_
                            refine LW.move rfl rfl ?_
                            refine LW.add64 rfl rfl (by omega) (by omega) rfl ?_
                            refine LW.assign rfl rfl ?_
                            refine LW.nil ?_
                            refine NW.meet ((i + 1, at' + gm, false, v')) ?j14 ?e14 ?h14
                            case j14 => exact ⟨⟨by omega, by dsimp only; omega, fun _ => hrd2⟩, by dsimp only; omega⟩
                            case e14 => repeat (first | exact Env.Le.nil _ | refine Env.Le.cons rfl ?_)
                            case h14 => repeat (first | exact Sub.heap_nil _ | exact Sub.refl _ | refine Sub.heap_cons (by repeat (first | exact Take.head _ _ | apply Take.tail)) ?_)
                        · refine LW.move rfl rfl ?_
                          refine LW.cut (at') (cs.length) (cpc) (some _) none none rfl Tryd.underlying26 FactsLawAll.szt5 (fun a hf => congrArg some (hf.eval rfl)) (fun a hf => rfl) (fun a hf => rfl) (.inr ⟨_, rfl⟩) (.inl ⟨rfl, rfl, rfl⟩) (.inl ⟨rfl, rfl⟩) (by omega) (by omega) (by omega) (by omega) rfl ?_
                          rw [← hdl]
                          refine LW.call (ref_GetInt' W B chb (cutA Ac cpc at' 1) (cpc - at') (cs.drop at') hsd (by omega) _ _ hgot) Tryd.func35 rfl FactsLawAll.fname35 ⟨rfl, trivial⟩ ((by repeat (first | exact Take.head _ _ | apply Take.tail))) rfl ?_
                          rintro _ _ ⟨rfl, rfl⟩
                          refine LW.move rfl rfl ?_
                          refine LW.extract rfl rfl rfl ?_
                          refine LW.extract rfl rfl rfl ?_
                          refine LW.assign rfl rfl ?_
                          refine LW.assign rfl rfl ?_
                          refine LW.nil ?_
                          refine NW.then_ ?_
                          refine CW.seq ?_
                          refine CW.region ?_
                          refine LW.assign rfl rfl ?_
                          refine LW.nil ?_
                          refine NW.then_ ?_
                          refine CW.seq ?_
                          refine CW.region ?_
                          refine LW.move rfl rfl ?_
                          refine LW.move rfl rfl ?_
                          refine LW.off 192 rfl rfl rfl rfl ?_
                          refine LW.off 192 rfl rfl rfl rfl ?_
                          refine LW.pickT rfl rfl rfl ?_
                          refine LW.assign rfl rfl ?_
                          refine LW.nil ?_
                          refine NW.then_ ?_
                          refine CW.seq ?_
                          refine CW.seq ?_
                          refine CW.region ?_
                          refine LW.move rfl rfl ?_
                          refine LW.not _ rfl rfl rfl ?_
                          refine LW.move rfl rfl ?_
                          refine LW.off 198 rfl rfl rfl rfl ?_
                          refine LW.off 198 rfl rfl rfl rfl ?_
                          refine LW.off 198 rfl rfl rfl rfl ?_
                          refine LW.off 198 rfl rfl rfl rfl ?_
                          refine LW.pickF rfl rfl rfl ?_
                          refine LW.nil ?_
                          refine NW.then_ ?_
                          refine CW.cond_false rfl ?_
                          refine CW.skip ?_
                          refine NW.then_ ?_
                          refine CW.seq ?_
                          refine CW.seq ?_
                          refine CW.region ?_
                          refine LW.move rfl rfl ?_
                          refine LW.nil ?_
                          refine NW.then_ ?_
                          refine CW.cond_true rfl ?_
                          refine CW.region ?_
                          refine LW.assign rfl rfl ?_
                          refine LW.assign rfl rfl ?_
                          refine LW.nil ?_
                          refine NW.then_ ?_
                          refine CW.seq ?_
                          refine CW.seq ?_
                          refine CW.region ?_
                          refine LW.move rfl rfl ?_
                          refine LW.move rfl rfl ?_
                          refine LW.indexAt rfl rfl Tryd.underlying22 FactsLawAll.ixs22 (by omega) (by omega) rfl ?_
                          refine LW.loadRd (v := .bool false) rfl (hA3.rd (Take.none _)) (by simpa using hki) FactsLawAll.one4 rfl ?_
                          refine LW.move rfl rfl ?_
                          refine LW.off 241 rfl rfl rfl rfl ?_
                          refine LW.off 241 rfl rfl rfl rfl ?_
                          refine LW.off 241 rfl rfl rfl rfl ?_
                          refine LW.off 241 rfl rfl rfl rfl ?_
                          refine LW.pickF rfl rfl rfl ?_
                          refine LW.move rfl rfl ?_
                          refine LW.on 247 rfl rfl ?_
                          refine LW.move rfl rfl ?_
                          refine LW.on 247 rfl rfl ?_
                          refine LW.move rfl rfl ?_
                          refine LW.on 247 rfl rfl ?_
                          refine LW.indexAt rfl rfl Tryd.underlying22 FactsLawAll.ixs22 (by omega) (by omega) rfl ?_
                          refine LW.on 247 rfl rfl ?_
                          refine LW.loadRd (v := .bool false) rfl (hA3.rd (Take.none _)) (by simpa using hki) FactsLawAll.one4 rfl ?_
                          refine LW.on 247 rfl rfl ?_
                          refine LW.not _ rfl rfl rfl ?_
                          refine LW.on 247 rfl rfl ?_
                          refine LW.move rfl rfl ?_
                          refine LW.on 253 rfl rfl ?_
                          refine LW.move rfl rfl ?_
                          refine LW.on 253 rfl rfl ?_
                          refine LW.call (bin_RInt_bad W B rp v rch) Tryd.func31 rfl FactsLawAll.fname31 ⟨rfl, trivial⟩ ((by repeat (first | exact Take.head _ _ | apply Take.tail))) rfl ?_
                          rintro _ _ ⟨rfl, rfl⟩
                          refine LW.on 253 rfl rfl ?_
                          refine LW.move rfl rfl ?_
                          refine LW.on 253 rfl rfl ?_
                          refine LW.neq false rfl rfl (by simp) rfl ?_
                          refine LW.on 247 rfl rfl ?_
                          refine LW.pickT rfl rfl rfl ?_
                          refine LW.pickF rfl rfl rfl ?_
                          refine LW.move rfl rfl ?_
                          refine LW.on 260 rfl rfl ?_
                          refine LW.move rfl rfl ?_
                          refine LW.on 260 rfl rfl ?_
                          refine LW.call (bin_Err W B rp v true rch) Tryd.func32 rfl FactsLawAll.fname32 ⟨rfl, trivial⟩ ((by repeat (first | exact Take.head _ _ | apply Take.tail))) rfl ?_
                          rintro _ _ ⟨rfl, rfl⟩
                          refine LW.on 260 rfl rfl ?_
                          refine LW.eql true rfl rfl (rfl) rfl ?_
                          refine LW.on 260 rfl rfl ?_
                          refine LW.move rfl rfl ?_
                          refine LW.on 260 rfl rfl ?_
                          refine LW.boolNeq (false) rfl rfl Tryd.underlying4 (rfl) rfl ?_
                          refine LW.pickF rfl rfl rfl ?_
                          refine LW.nil ?_
                          refine NW.then_ ?_
                          refine CW.cond_false rfl ?_
                          refine CW.skip ?_
                          refine NW.then_ ?_
                          refine CW.region ?_
                          refine LW.move rfl rfl ?_
                          refine LW.move rfl rfl ?_
                          refine LW.add64 rfl rfl (by omega) (by omega) rfl ?_
                          refine LW.assign rfl rfl ?_
                          refine LW.nil ?_
                          refine NW.block ?_
                          refine NW.then_ ?_
                          refine CW.region ?_
                          refine LW.move rfl rfl ?_
                          refine LW.add64 rfl rfl (by omega) (by omega) rfl ?_
                          refine LW.assign rfl rfl ?_
                          refine LW.nil ?_
                          refine NW.meet ((i + 1, at', true, v)) ?j15 ?e15 ?h15
                          case j15 => exact ⟨⟨by omega, hat, fun h => by cases h⟩, by dsimp only; omega⟩
                          case e15 => repeat (first | exact Env.Le.nil _ | refine Env.Le.cons rfl ?_)
                          case h15 => repeat (first | exact Sub.heap_nil _ | exact Sub.refl _ | refine Sub.heap_cons (by repeat (first | exact Take.head _ _ | apply Take.tail)) ?_)
                      · refine LW.move rfl rfl ?_
                        cases bad
                        · refine LW.move rfl rfl ?_
                          rcases hgz : getZ (cs.drop at') with _ | ⟨gn', gm⟩
                          · obtain ⟨rfl, rfl⟩ := gotZ_none hgot hgz
                            refine LW.cut (at') (cs.length) (cpc) (some _) none none rfl Tryd.underlying26 FactsLawAll.szt5 (fun a hf => congrArg some (hf.eval rfl)) (fun a hf => rfl) (fun a hf => rfl) (.inr ⟨_, rfl⟩) (.inl ⟨rfl, rfl, rfl⟩) (.inl ⟨rfl, rfl⟩) (by omega) (by omega) (by omega) (by omega) rfl ?_
                            rw [← hdl]
                            refine LW.call (ref_GetInt' W B chb (cutA Ac cpc at' 1) (cpc - at') (cs.drop at') hsd (by omega) _ _ hgot) Tryd.func35 rfl FactsLawAll.fname35 ⟨rfl, trivial⟩ ((by repeat (first | exact Take.head _ _ | apply Take.tail))) rfl ?_
                            rintro _ _ ⟨rfl, rfl⟩
                            refine LW.move rfl rfl ?_
                            refine LW.extract rfl rfl rfl ?_
                            refine LW.extract rfl rfl rfl ?_
                            refine LW.assign rfl rfl ?_
                            refine LW.assign rfl rfl ?_
                            refine LW.nil ?_
                            refine NW.then_ ?_
                            refine CW.seq ?_
                            refine CW.region ?_
                            refine LW.assign rfl rfl ?_
                            refine LW.nil ?_
                            refine NW.then_ ?_
                            refine CW.seq ?_
                            refine CW.region ?_
                            refine LW.move rfl rfl ?_
                            refine LW.move rfl rfl ?_
                            refine LW.on 192 rfl rfl ?_
                            refine LW.move rfl rfl ?_
                            refine LW.on 192 rfl rfl ?_
                            refine LW.eql true rfl rfl (rfl) rfl ?_
                            refine LW.pickF rfl rfl rfl ?_
                            refine LW.assign rfl rfl ?_
                            refine LW.nil ?_
                            refine NW.then_ ?_
                            refine CW.seq ?_
                            refine CW.seq ?_
                            refine CW.region ?_
                            refine LW.move rfl rfl ?_
                            refine LW.not _ rfl rfl rfl ?_
                            refine LW.move rfl rfl ?_
                            refine LW.off 198 rfl rfl rfl rfl ?_
                            refine LW.off 198 rfl rfl rfl rfl ?_
                            refine LW.off 198 rfl rfl rfl rfl ?_
                            refine LW.off 198 rfl rfl rfl rfl ?_
                            refine LW.pickF rfl rfl rfl ?_
                            refine LW.nil ?_
                            refine NW.then_ ?_
                            refine CW.cond_false rfl ?_
                            refine CW.skip ?_
                            refine NW.then_ ?_
                            refine CW.seq ?_
                            refine CW.seq ?_
                            refine CW.region ?_
                            refine LW.move rfl rfl ?_
                            refine LW.nil ?_
                            refine NW.then_ ?_
                            refine CW.cond_true rfl ?_
                            refine CW.region ?_
                            refine LW.assign rfl rfl ?_
                            refine LW.assign rfl rfl ?_
                            refine LW.nil ?_
                            refine NW.then_ ?_
                            refine CW.seq ?_
                            refine CW.seq ?_
                            refine CW.region ?_
                            refine LW.move rfl rfl ?_
                            refine LW.move rfl rfl ?_
                            refine LW.indexAt rfl rfl Tryd.underlying22 FactsLawAll.ixs22 (by omega) (by omega) rfl ?_
                            refine LW.loadRd (v := .bool true) rfl (hA3.rd (Take.none _)) (by simpa using hki) FactsLawAll.one4 rfl ?_
                            refine LW.move rfl rfl ?_
                            refine LW.on 241 rfl rfl ?_
                            refine LW.move rfl rfl ?_
                            refine LW.on 241 rfl rfl ?_
                            refine LW.call (bin_RText_none W B rp v (cs.drop at') rch (hbad rfl) (by omega) hgz 10) Tryd.func33 rfl FactsLawAll.fname33 ⟨rfl, rfl, trivial⟩ ((by repeat (first | exact Take.head _ _ | apply Take.tail))) rfl ?_
                            rintro _ _ ⟨rfl, rfl⟩
                            refine LW.on 241 rfl rfl ?_
                            refine LW.move rfl rfl ?_
                            refine LW.on 241 rfl rfl ?_
                            refine LW.strNeq (false) rfl rfl Tryd.underlying9 (decide_eq_false (by simp)) rfl ?_
                            refine LW.pickT rfl rfl rfl ?_
                            refine LW.move rfl rfl ?_
                            refine LW.on 247 rfl rfl ?_
                            refine LW.move rfl rfl ?_
                            refine LW.on 247 rfl rfl ?_
                            refine LW.move rfl rfl ?_
                            refine LW.on 247 rfl rfl ?_
                            refine LW.indexAt rfl rfl Tryd.underlying22 FactsLawAll.ixs22 (by omega) (by omega) rfl ?_
                            refine LW.on 247 rfl rfl ?_
                            refine LW.loadRd (v := .bool true) rfl (hA3.rd (Take.none _)) (by simpa using hki) FactsLawAll.one4 rfl ?_
                            refine LW.on 247 rfl rfl ?_
                            refine LW.not _ rfl rfl rfl ?_
                            refine LW.on 247 rfl rfl ?_
                            refine LW.move rfl rfl ?_
                            refine LW.off 253 rfl rfl rfl rfl ?_
                            refine LW.off 253 rfl rfl rfl rfl ?_
                            refine LW.off 253 rfl rfl rfl rfl ?_
                            refine LW.off 253 rfl rfl rfl rfl ?_
                            refine LW.on 247 rfl rfl ?_
                            refine LW.pickF rfl rfl rfl ?_
                            refine LW.pickF rfl rfl rfl ?_
                            refine LW.move rfl rfl ?_
                            refine LW.on 260 rfl rfl ?_
                            refine LW.move rfl rfl ?_
                            refine LW.on 260 rfl rfl ?_
                            refine LW.call (bin_Err W B rp v true rch) Tryd.func32 rfl FactsLawAll.fname32 ⟨rfl, trivial⟩ ((by repeat (first | exact Take.head _ _ | apply Take.tail))) rfl ?_
                            rintro _ _ ⟨rfl, rfl⟩
                            refine LW.on 260 rfl rfl ?_
                            refine LW.eql true rfl rfl (rfl) rfl ?_
                            refine LW.on 260 rfl rfl ?_
                            refine LW.move rfl rfl ?_
                            refine LW.on 260 rfl rfl ?_
                            refine LW.boolNeq (false) rfl rfl Tryd.underlying4 (rfl) rfl ?_
                            refine LW.pickF rfl rfl rfl ?_
                            refine LW.nil ?_
                            refine NW.then_ ?_
                            refine CW.cond_false rfl ?_
                            refine CW.skip ?_
                            refine NW.then_ ?_
                            refine CW.region ?_
                            refine LW.move rfl rfl ?_
                            refine LW.move rfl rfl ?_
                            refine LW.add64 rfl rfl (by omega) (by omega) rfl ?_
                            refine LW.assign rfl rfl ?_
                            refine LW.nil ?_
                            refine NW.block ?_
                            refine NW.then_ ?_
                            refine CW.region ?_
                            refine LW.move rfl rfl ?_
                            refine LW.add64 rfl rfl (by omega) (by omega) rfl ?_
                            refine LW.assign rfl rfl ?_
                            refine LW.nil ?_
                            refine NW.meet ((i + 1, at', true, v)) ?j16 ?e16 ?h16
                            case j16 => exact ⟨⟨by omega, hat, fun h => by cases h⟩, by dsimp only; omega⟩
                            case e16 => repeat (first | exact Env.Le.nil _ | refine Env.Le.cons rfl ?_)
                            case h16 => repeat (first | exact Sub.heap_nil _ | exact Sub.refl _ | refine Sub.heap_cons (by repeat (first | exact Take.head _ _ | apply Take.tail)) ?_)
                          · obtain ⟨rfl, rfl⟩ := gotZ_some hgot hgz; obtain ⟨hgm1, hgm2, hgI⟩ := getZ_some hgz
                            refine LW.cut (at') (cs.length) (cpc) (some _) none none rfl Tryd.underlying26 FactsLawAll.szt5 (fun a hf => congrArg some (hf.eval rfl)) (fun a hf => rfl) (fun a hf => rfl) (.inr ⟨_, rfl⟩) (.inl ⟨rfl, rfl, rfl⟩) (.inl ⟨rfl, rfl⟩) (by omega) (by omega) (by omega) (by omega) rfl ?_
                            rw [← hdl]
                            refine LW.call (ref_GetInt' W B chb (cutA Ac cpc at' 1) (cpc - at') (cs.drop at') hsd (by omega) _ _ hgot) Tryd.func35 rfl FactsLawAll.fname35 ⟨rfl, trivial⟩ ((by repeat (first | exact Take.head _ _ | apply Take.tail))) rfl ?_
                            rintro _ _ ⟨rfl, rfl⟩
                            refine LW.move rfl rfl ?_
                            refine LW.extract rfl rfl rfl ?_
                            refine LW.extract rfl rfl rfl ?_
                            refine LW.assign rfl rfl ?_
                            refine LW.assign rfl rfl ?_
                            refine LW.nil ?_
                            refine NW.then_ ?_
                            refine CW.seq ?_
                            refine CW.region ?_
                            refine LW.assign rfl rfl ?_
                            refine LW.nil ?_
                            refine NW.then_ ?_
                            refine CW.seq ?_
                            refine CW.region ?_
                            refine LW.move rfl rfl ?_
                            refine LW.move rfl rfl ?_
                            refine LW.on 192 rfl rfl ?_
                            refine LW.move rfl rfl ?_
                            refine LW.on 192 rfl rfl ?_
                            refine LW.eql false rfl rfl (beq_eq_false_iff_ne.2 (by omega)) rfl ?_
                            refine LW.pickF rfl rfl rfl ?_
                            refine LW.assign rfl rfl ?_
                            refine LW.nil ?_
                            refine NW.then_ ?_
                            refine CW.seq ?_
                            refine CW.seq ?_
                            refine CW.region ?_
                            refine LW.move rfl rfl ?_
                            refine LW.not _ rfl rfl rfl ?_
                            refine LW.move rfl rfl ?_
                            refine LW.on 198 rfl rfl ?_
                            refine LW.move rfl rfl ?_
                            refine LW.on 198 rfl rfl ?_
                            refine LW.move rfl rfl ?_
                            refine LW.on 198 rfl rfl ?_
                            refine LW.indexAt rfl rfl Tryd.underlying22 FactsLawAll.ixs22 (by omega) (by omega) rfl ?_
                            refine LW.on 198 rfl rfl ?_
                            refine LW.loadRd (v := .bool true) rfl (hA3.rd (Take.none _)) (by simpa using hki) FactsLawAll.one4 rfl ?_
                            refine LW.pickT rfl rfl rfl ?_
                            refine LW.nil ?_
                            refine NW.then_ ?_
                            refine CW.cond_true rfl ?_
                            refine CW.seq ?_
                            refine CW.region ?_
                            refine LW.move rfl rfl ?_
                            by_cases hn0 : gn < 0
                            · refine LW.lss true rfl rfl (decide_eq_true (by omega)) rfl ?_
                              refine LW.move rfl rfl ?_
                              refine LW.off 206 rfl rfl rfl rfl ?_
                              refine LW.off 206 rfl rfl rfl rfl ?_
                              refine LW.pickT rfl rfl rfl ?_
                              refine LW.move rfl rfl ?_
                              refine LW.off 210 rfl rfl rfl rfl ?_
                              refine LW.off 210 rfl rfl rfl rfl ?_
                              refine LW.off 210 rfl rfl rfl rfl ?_
                              refine LW.off 210 rfl rfl rfl rfl ?_
                              refine LW.off 210 rfl rfl rfl rfl ?_
                              refine LW.off 210 rfl rfl rfl rfl ?_
                              refine LW.off 210 rfl rfl rfl rfl ?_
                              refine LW.off 210 rfl rfl rfl rfl ?_
                              refine LW.pickT rfl rfl rfl ?_
                              refine LW.assign rfl rfl ?_
                              refine LW.nil ?_
                              refine NW.then_ ?_
                              refine CW.seq ?_
                              refine CW.region ?_
                              refine LW.move rfl rfl ?_
                              refine LW.not _ rfl rfl rfl ?_
                              refine LW.nil ?_
                              refine NW.then_ ?_
                              refine CW.cond_false rfl ?_
                              refine CW.skip ?_
                              refine NW.then_ ?_
                              refine CW.seq ?_
                              refine CW.seq ?_
                              refine CW.region ?_
                              refine LW.move rfl rfl ?_
                              refine LW.nil ?_
                              refine NW.then_ ?_
                              refine CW.cond_true rfl ?_
                              refine CW.region ?_
                              refine LW.assign rfl rfl ?_
                              refine LW.assign rfl rfl ?_
                              refine LW.nil ?_
                              refine NW.then_ ?_
                              refine CW.seq ?_
                              refine CW.seq ?_
                              refine CW.region ?_
                              refine LW.move rfl rfl ?_
                              refine LW.move rfl rfl ?_
                              refine LW.indexAt rfl rfl Tryd.underlying22 FactsLawAll.ixs22 (by omega) (by omega) rfl ?_
                              refine LW.loadRd (v := .bool true) rfl (hA3.rd (Take.none _)) (by simpa using hki) FactsLawAll.one4 rfl ?_
                              refine LW.move rfl rfl ?_
                              refine LW.on 241 rfl rfl ?_
                              refine LW.move rfl rfl ?_
                              refine LW.on 241 rfl rfl ?_
                              refine LW.call (bin_RText_no W B rp v (cs.drop at') rch (hbad rfl) (by omega) _ _ hgz 10 (by omega)) Tryd.func33 rfl FactsLawAll.fname33 ⟨rfl, rfl, trivial⟩ ((by repeat (first | exact Take.head _ _ | apply Take.tail))) rfl ?_
                              rintro _ _ ⟨rfl, v', rfl⟩
                              refine LW.on 241 rfl rfl ?_
                              refine LW.move rfl rfl ?_
                              refine LW.on 241 rfl rfl ?_
                              refine LW.strNeq (false) rfl rfl Tryd.underlying9 (decide_eq_false (by simp)) rfl ?_
                              refine LW.pickT rfl rfl rfl ?_
                              refine LW.move rfl rfl ?_
                              refine LW.on 247 rfl rfl ?_
                              refine LW.move rfl rfl ?_
                              refine LW.on 247 rfl rfl ?_
                              refine LW.move rfl rfl ?_
                              refine LW.on 247 rfl rfl ?_
                              refine LW.indexAt rfl rfl Tryd.underlying22 FactsLawAll.ixs22 (by omega) (by omega) rfl ?_
                              refine LW.on 247 rfl rfl ?_
                              refine LW.loadRd (v := .bool true) rfl (hA3.rd (Take.none _)) (by simpa using hki) FactsLawAll.one4 rfl ?_
                              refine LW.on 247 rfl rfl ?_
                              refine LW.not _ rfl rfl rfl ?_
                              refine LW.on 247 rfl rfl ?_
                              refine LW.move rfl rfl ?_
                              refine LW.off 253 rfl rfl rfl rfl ?_
                              refine LW.off 253 rfl rfl rfl rfl ?_
                              refine LW.off 253 rfl rfl rfl rfl ?_
                              refine LW.off 253 rfl rfl rfl rfl ?_
                              refine LW.on 247 rfl rfl ?_
                              refine LW.pickF rfl rfl rfl ?_
                              refine LW.pickF rfl rfl rfl ?_
                              refine LW.move rfl rfl ?_
                              refine LW.on 260 rfl rfl ?_
                              refine LW.move rfl rfl ?_
                              refine LW.on 260 rfl rfl ?_
                              refine LW.call (bin_Err W B rp v' true rch) Tryd.func32 rfl FactsLawAll.fname32 ⟨rfl, trivial⟩ ((by repeat (first | exact Take.head _ _ | apply Take.tail))) rfl ?_
                              rintro _ _ ⟨rfl, rfl⟩
                              refine LW.on 260 rfl rfl ?_
                              refine LW.eql true rfl rfl (rfl) rfl ?_
                              refine LW.on 260 rfl rfl ?_
                              refine LW.move rfl rfl ?_
                              refine LW.on 260 rfl rfl ?_
                              refine LW.boolNeq (false) rfl rfl Tryd.underlying4 (rfl) rfl ?_
                              refine LW.pickF rfl rfl rfl ?_
                              refine LW.nil ?_
                              refine NW.then_ ?_
                              refine CW.cond_false rfl ?_
                              refine CW.skip ?_
                              refine NW.then_ ?_
                              refine CW.region ?_
                              refine LW.move rfl rfl ?_
                              refine LW.move rfl rfl ?_
                              refine LW.add64 rfl rfl (by omega) (by omega) rfl ?_
                              refine LW.assign rfl rfl ?_
                              refine LW.nil ?_
                              refine NW.block ?_
                              refine NW.then_ ?_
                              refine CW.region ?_
                              refine LW.move rfl rfl ?_
                              refine LW.add64 rfl rfl (by omega) (by omega) rfl ?_
                              refine LW.assign rfl rfl ?_
                              refine LW.nil ?_
                              refine NW.meet ((i + 1, at', true, v')) ?j17 ?e17 ?h17
                              case j17 => exact ⟨⟨by omega, hat, fun h => by cases h⟩, by dsimp only; omega⟩
                              case e17 => repeat (first | exact Env.Le.nil _ | refine Env.Le.cons rfl ?_)
                              case h17 => repeat (first | exact Sub.heap_nil _ | exact Sub.refl _ | refine Sub.heap_cons (by repeat (first | exact Take.head _ _ | apply Take.tail)) ?_)
                            · refine LW.lss false rfl rfl (decide_eq_false (by omega)) rfl ?_
                              refine LW.move rfl rfl ?_
                              refine LW.on 206 rfl rfl ?_
                              refine LW.move rfl rfl ?_
                              by_cases hn10 : 10 < gn
                              · refine LW.on 206 rfl rfl ?_
                                refine LW.gtr true rfl rfl (decide_eq_true (by omega)) rfl ?_
                                refine LW.pickF rfl rfl rfl ?_
                                refine LW.move rfl rfl ?_
                                refine LW.off 210 rfl rfl rfl rfl ?_
                                refine LW.off 210 rfl rfl rfl rfl ?_
                                refine LW.off 210 rfl rfl rfl rfl ?_
                                refine LW.off 210 rfl rfl rfl rfl ?_
                                refine LW.off 210 rfl rfl rfl rfl ?_
                                refine LW.off 210 rfl rfl rfl rfl ?_
                                refine LW.off 210 rfl rfl rfl rfl ?_
                                refine LW.off 210 rfl rfl rfl rfl ?_
                                refine LW.pickT rfl rfl rfl ?_
                                refine LW.assign rfl rfl ?_
                                refine LW.nil ?_
                                refine NW.then_ ?_
                                refine CW.seq ?_
                                refine CW.region ?_
                                refine LW.move rfl rfl ?_
                                refine LW.not _ rfl rfl rfl ?_
                                refine LW.nil ?_
                                refine NW.then_ ?_
                                refine CW.cond_false rfl ?_
                                refine CW.skip ?_
                                refine NW.then_ ?_
                                refine CW.seq ?_
                                refine CW.seq ?_
                                refine CW.region ?_
                                refine LW.move rfl rfl ?_
                                refine LW.nil ?_
                                refine NW.then_ ?_
                                refine CW.cond_true rfl ?_
                                refine CW.region ?_
                                refine LW.assign rfl rfl ?_
                                refine LW.assign rfl rfl ?_
                                refine LW.nil ?_
                                refine NW.then_ ?_
                                refine CW.seq ?_
                                refine CW.seq ?_
                                refine CW.region ?_
                                refine LW.move rfl rfl ?_
                                refine LW.move rfl rfl ?_
                                refine LW.indexAt rfl rfl Tryd.underlying22 FactsLawAll.ixs22 (by omega) (by omega) rfl ?_
                                refine LW.loadRd (v := .bool true) rfl (hA3.rd (Take.none _)) (by simpa using hki) FactsLawAll.one4 rfl ?_
                                refine LW.move rfl rfl ?_
                                refine LW.on 241 rfl rfl ?_
                                refine LW.move rfl rfl ?_
                                refine LW.on 241 rfl rfl ?_
                                refine LW.call (bin_RText_no W B rp v (cs.drop at') rch (hbad rfl) (by omega) _ _ hgz 10 (by omega)) Tryd.func33 rfl FactsLawAll.fname33 ⟨rfl, rfl, trivial⟩ ((by repeat (first | exact Take.head _ _ | apply Take.tail))) rfl ?_
                                rintro _ _ ⟨rfl, v', rfl⟩
                                refine LW.on 241 rfl rfl ?_
                                refine LW.move rfl rfl ?_
                                refine LW.on 241 rfl rfl ?_
                                refine LW.strNeq (false) rfl rfl Tryd.underlying9 (decide_eq_false (by simp)) rfl ?_
                                refine LW.pickT rfl rfl rfl ?_
                                refine LW.move rfl rfl ?_
                                refine LW.on 247 rfl rfl ?_
                                refine LW.move rfl rfl ?_
                                refine LW.on 247 rfl rfl ?_
                                refine LW.move rfl rfl ?_
                                refine LW.on 247 rfl rfl ?_
                                refine LW.indexAt rfl rfl Tryd.underlying22 FactsLawAll.ixs22 (by omega) (by omega) rfl ?_
                                refine LW.on 247 rfl rfl ?_
                                refine LW.loadRd (v := .bool true) rfl (hA3.rd (Take.none _)) (by simpa using hki) FactsLawAll.one4 rfl ?_
                                refine LW.on 247 rfl rfl ?_
                                refine LW.not _ rfl rfl rfl ?_
                                refine LW.on 247 rfl rfl ?_
                                refine LW.move rfl rfl ?_
                                refine LW.off 253 rfl rfl rfl rfl ?_
                                refine LW.off 253 rfl rfl rfl rfl ?_
                                refine LW.off 253 rfl rfl rfl rfl ?_
                                refine LW.off 253 rfl rfl rfl rfl ?_
                                refine LW.on 247 rfl rfl ?_
                                refine LW.pickF rfl rfl rfl ?_
                                refine LW.pickF rfl rfl rfl ?_
                                refine LW.move rfl rfl ?_
                                refine LW.on 260 rfl rfl ?_
                                refine LW.move rfl rfl ?_
                                refine LW.on 260 rfl rfl ?_
                                refine LW.call (bin_Err W B rp v' true rch) Tryd.func32 rfl FactsLawAll.fname32 ⟨rfl, trivial⟩ ((by repeat (first | exact Take.head _ _ | apply Take.tail))) rfl ?_
                                rintro _ _ ⟨rfl, rfl⟩
                                refine LW.on 260 rfl rfl ?_
                                refine LW.eql true rfl rfl (rfl) rfl ?_
                                refine LW.on 260 rfl rfl ?_
                                refine LW.move rfl rfl ?_
                                refine LW.on 260 rfl rfl ?_
                                refine LW.boolNeq (false) rfl rfl Tryd.underlying4 (rfl) rfl ?_
                                refine LW.pickF rfl rfl rfl ?_
                                refine LW.nil ?_
                                refine NW.then_ ?_
                                refine CW.cond_false rfl ?_
                                refine CW.skip ?_
                                refine NW.then_ ?_
                                refine CW.region ?_
                                refine LW.move rfl rfl ?_
                                refine LW.move rfl rfl ?_
                                refine LW.add64 rfl rfl (by omega) (by omega) rfl ?_
                                refine LW.assign rfl rfl ?_
                                refine LW.nil ?_
                                refine NW.block ?_
                                refine NW.then_ ?_
                                refine CW.region ?_
                                refine LW.move rfl rfl ?_
                                refine LW.add64 rfl rfl (by omega) (by omega) rfl ?_
                                refine LW.assign rfl rfl ?_
                                refine LW.nil ?_
                                refine NW.meet ((i + 1, at', true, v')) ?j18 ?e18 ?h18
                                case j18 => exact ⟨⟨by omega, hat, fun h => by cases h⟩, by dsimp only; omega⟩
                                case e18 => repeat (first | exact Env.Le.nil _ | refine Env.Le.cons rfl ?_)
                                case h18 => repeat (first | exact Sub.heap_nil _ | exact Sub.refl _ | refine Sub.heap_cons (by repeat (first | exact Take.head _ _ | apply Take.tail)) ?_)
                              · refine LW.on 206 rfl rfl ?_
                                refine LW.gtr false rfl rfl (decide_eq_false (by omega)) rfl ?_
                                refine LW.pickF rfl rfl rfl ?_
                                refine LW.move rfl rfl ?_
                                refine LW.on 210 rfl rfl ?_
                                refine LW.move rfl rfl ?_
                                refine LW.on 210 rfl rfl ?_
                                refine LW.move rfl rfl ?_
                                refine LW.on 210 rfl rfl ?_
                                refine LW.lenSlice rfl Tryd.underlying26 rfl ?_
                                refine LW.on 210 rfl rfl ?_
                                refine LW.move rfl rfl ?_
                                refine LW.on 210 rfl rfl ?_
                                refine LW.sub64 rfl rfl (by omega) (by omega) rfl ?_
                                refine LW.on 210 rfl rfl ?_
                                refine LW.move rfl rfl ?_
                                refine LW.on 210 rfl rfl ?_
                                refine LW.sub64 rfl rfl (by omega) (by omega) rfl ?_
                                by_cases hnl : ((cs.length : Int) - (at' : Int) - (gm : Int)) < gn
                                · refine LW.on 210 rfl rfl ?_
                                  refine LW.gtr true rfl rfl (decide_eq_true (by omega)) rfl ?_
                                  refine LW.pickF rfl rfl rfl ?_
                                  refine LW.assign rfl rfl ?_
                                  refine LW.nil ?_
                                  refine NW.then_ ?_
                                  refine CW.seq ?_
                                  refine CW.region ?_
                                  refine LW.move rfl rfl ?_
                                  refine LW.not _ rfl rfl rfl ?_
                                  refine LW.nil ?_
                                  refine NW.then_ ?_
                                  refine CW.cond_false rfl ?_
                                  refine CW.skip ?_
                                  refine NW.then_ ?_
                                  refine CW.seq ?_
                                  refine CW.seq ?_
                                  refine CW.region ?_
                                  refine LW.move rfl rfl ?_
                                  refine LW.nil ?_
                                  refine NW.then_ ?_
                                  refine CW.cond_true rfl ?_
                                  refine CW.region ?_
                                  refine LW.assign rfl rfl ?_
                                  refine LW.assign rfl rfl ?_
                                  refine LW.nil ?_
                                  refine NW.then_ ?_
                                  refine CW.seq ?_
                                  refine CW.seq ?_
                                  refine CW.region ?_
                                  refine LW.move rfl rfl ?_
                                  refine LW.move rfl rfl ?_
                                  refine LW.indexAt rfl rfl Tryd.underlying22 FactsLawAll.ixs22 (by omega) (by omega) rfl ?_
                                  refine LW.loadRd (v := .bool true) rfl (hA3.rd (Take.none _)) (by simpa using hki) FactsLawAll.one4 rfl ?_
                                  refine LW.move rfl rfl ?_
                                  refine LW.on 241 rfl rfl ?_
                                  refine LW.move rfl rfl ?_
                                  refine LW.on 241 rfl rfl ?_
                                  refine LW.call (bin_RText_no W B rp v (cs.drop at') rch (hbad rfl) (by omega) _ _ hgz 10 (by rw [List.drop_drop, List.length_drop]; omega)) Tryd.func33 rfl FactsLawAll.fname33 ⟨rfl, rfl, trivial⟩ ((by repeat (first | exact Take.head _ _ | apply Take.tail))) rfl ?_
                                  rintro _ _ ⟨rfl, v', rfl⟩
                                  refine LW.on 241 rfl rfl ?_
                                  refine LW.move rfl rfl ?_
                                  refine LW.on 241 rfl rfl ?_
                                  refine LW.strNeq (false) rfl rfl Tryd.underlying9 (decide_eq_false (by simp)) rfl ?_
                                  refine LW.pickT rfl rfl rfl ?_
                                  refine LW.move rfl rfl ?_
                                  refine LW.on 247 rfl rfl ?_
                                  refine LW.move rfl rfl ?_
                                  refine LW.on 247 rfl rfl ?_
                                  refine LW.move rfl rfl ?_
                                  refine LW.on 247 rfl rfl ?_
                                  refine LW.indexAt rfl rfl Tryd.underlying22 FactsLawAll.ixs22 (by omega) (by omega) rfl ?_
                                  refine LW.on 247 rfl rfl ?_
                                  refine LW.loadRd (v := .bool true) rfl (hA3.rd (Take.none _)) (by simpa using hki) FactsLawAll.one4 rfl ?_
                                  refine LW.on 247 rfl rfl ?_
                                  refine LW.not _ rfl rfl rfl ?_
                                  refine LW.on 247 rfl rfl ?_
                                  refine LW.move rfl rfl ?_
                                  refine LW.off 253 rfl rfl rfl rfl ?_
                                  refine LW.off 253 rfl rfl rfl rfl ?_
                                  refine LW.off 253 rfl rfl rfl rfl ?_
                                  refine LW.off 253 rfl rfl rfl rfl ?_
                                  refine LW.on 247 rfl rfl ?_
                                  refine LW.pickF rfl rfl rfl ?_
                                  refine LW.pickF rfl rfl rfl ?_
                                  refine LW.move rfl rfl ?_
                                  refine LW.on 260 rfl rfl ?_
                                  refine LW.move rfl rfl ?_
                                  refine LW.on 260 rfl rfl ?_
                                  refine LW.call (bin_Err W B rp v' true rch) Tryd.func32 rfl FactsLawAll.fname32 ⟨rfl, trivial⟩ ((by repeat (first | exact Take.head _ _ | apply Take.tail))) rfl ?_
                                  rintro _ _ ⟨rfl, rfl⟩
                                  refine LW.on 260 rfl rfl ?_
                                  refine LW.eql true rfl rfl (rfl) rfl ?_
                                  refine LW.on 260 rfl rfl ?_
                                  refine LW.move rfl rfl ?_
                                  refine LW.on 260 rfl rfl ?_
                                  refine LW.boolNeq (false) rfl rfl Tryd.underlying4 (rfl) rfl ?_
                                  refine LW.pickF rfl rfl rfl ?_
                                  refine LW.nil ?_
                                  refine NW.then_ ?_
                                  refine CW.cond_false rfl ?_
                                  refine CW.skip ?_
                                  refine NW.then_ ?_
                                  refine CW.region ?_
                                  refine LW.move rfl rfl ?_
                                  refine LW.move rfl rfl ?_
                                  refine LW.add64 rfl rfl (by omega) (by omega) rfl ?_
                                  refine LW.assign rfl rfl ?_
                                  refine LW.nil ?_
                                  refine NW.block ?_
                                  refine NW.then_ ?_
                                  refine CW.region ?_
                                  refine LW.move rfl rfl ?_
                                  refine LW.add64 rfl rfl (by omega) (by omega) rfl ?_
                                  refine LW.assign rfl rfl ?_
                                  refine LW.nil ?_
                                  refine NW.meet ((i + 1, at', true, v')) ?j19 ?e19 ?h19
                                  case j19 => exact ⟨⟨by omega, hat, fun h => by cases h⟩, by dsimp only; omega⟩
                                  case e19 => repeat (first | exact Env.Le.nil _ | refine Env.Le.cons rfl ?_)
                                  case h19 => repeat (first | exact Sub.heap_nil _ | exact Sub.refl _ | refine Sub.heap_cons (by repeat (first | exact Take.head _ _ | apply Take.tail)) ?_)
                                · refine LW.on 210 rfl rfl ?_
                                  refine LW.gtr false rfl rfl (decide_eq_false (by omega)) rfl ?_
                                  refine LW.pickF rfl rfl rfl ?_
                                  refine LW.assign rfl rfl ?_
                                  refine LW.nil ?_
                                  refine NW.then_ ?_
                                  refine CW.seq ?_
                                  refine CW.region ?_
                                  refine LW.move rfl rfl ?_
                                  refine LW.not _ rfl rfl rfl ?_
                                  refine LW.nil ?_
                                  refine NW.then_ ?_
                                  refine CW.cond_true rfl ?_
                                  refine CW.seq ?_
                                  obtain ⟨k, rfl⟩ : ∃ k : Nat, gn = (k : Int) := ⟨gn.toNat, by omega⟩
                                  have hsm := Src.cutA' hsc hcc (at' + gm) (by omega)
                                  refine CW.region ?_
                                  refine LW.move rfl rfl ?_
                                  refine LW.move rfl rfl ?_
                                  refine LW.move rfl rfl ?_
                                  refine LW.add64 rfl rfl (by omega) (by omega) rfl ?_
                                  refine LW.move rfl rfl ?_
                                  refine LW.move rfl rfl ?_
                                  refine LW.add64 rfl rfl (by omega) (by omega) rfl ?_
                                  refine LW.move rfl rfl ?_
                                  refine LW.add64 rfl rfl (by omega) (by omega) rfl ?_
                                  refine LW.cut (at' + gm) (at' + gm + k) (cpc) (some _) (some _) none rfl Tryd.underlying26 FactsLawAll.szt5 (fun a hf => congrArg some (hf.eval rfl)) (fun a hf => congrArg some (hf.eval rfl)) (fun a hf => rfl) (.inr ⟨_, rfl⟩) (.inr ⟨_, rfl⟩) (.inl ⟨rfl, rfl⟩) (by omega) (by omega) (by omega) (by omega) rfl ?_
                                  refine LW.bytesStr ((cs.drop (at' + gm)).take k) rfl Tryd.underlying26 Tryd.underlying5 Tryd.underlying9 (by rw [List.map_take]; exact (hsm.rd (by repeat (first | exact Take.head _ _ | apply Take.tail))).sub k) (by rw [List.length_take, List.length_drop]; omega) rfl ?_
                                  refine LW.assign rfl rfl ?_
                                  refine LW.nil ?_
                                  refine NW.then_ ?_
                                  refine CW.region ?_
                                  refine LW.move rfl rfl ?_
                                  refine LW.move rfl rfl ?_
                                  refine LW.add64 rfl rfl (by omega) (by omega) rfl ?_
                                  refine LW.assign rfl rfl ?_
                                  refine LW.nil ?_
                                  refine NW.then_ ?_
                                  refine CW.seq ?_
                                  refine CW.seq ?_
                                  refine CW.region ?_
                                  refine LW.move rfl rfl ?_
                                  refine LW.nil ?_
                                  refine NW.then_ ?_
                                  refine CW.cond_false rfl ?_
                                  refine CW.skip ?_
                                  refine NW.then_ ?_
                                  refine CW.seq ?_
                                  refine CW.seq ?_
                                  refine CW.region ?_
                                  refine LW.move rfl rfl ?_
                                  refine LW.move rfl rfl ?_
                                  refine LW.indexAt rfl rfl Tryd.underlying22 FactsLawAll.ixs22 (by omega) (by omega) rfl ?_
                                  refine LW.loadRd (v := .bool true) rfl (hA3.rd (Take.none _)) (by simpa using hki) FactsLawAll.one4 rfl ?_
                                  refine LW.move rfl rfl ?_
                                  refine LW.on 241 rfl rfl ?_
                                  refine LW.move rfl rfl ?_
                                  refine LW.on 241 rfl rfl ?_
                                  refine LW.call (bin_RText_ok W B rp v (cs.drop at') rch (hbad rfl) (by omega) k _ hgz 10 (by omega) (by rw [List.drop_drop, List.length_drop]; omega)) Tryd.func33 rfl FactsLawAll.fname33 ⟨rfl, rfl, trivial⟩ ((by repeat (first | exact Take.head _ _ | apply Take.tail))) rfl ?_
                                  rintro _ _ ⟨rfl, v', hrd2, rfl⟩; rw [List.drop_drop]; rw [List.drop_drop, List.drop_drop] at hrd2
                                  refine LW.on 241 rfl rfl ?_
                                  refine LW.move rfl rfl ?_
                                  refine LW.on 241 rfl rfl ?_
                                  refine LW.strNeq (false) rfl rfl Tryd.underlying9 (decide_eq_false (by simp)) rfl ?_
                                  refine LW.pickT rfl rfl rfl ?_
                                  refine LW.move rfl rfl ?_
                                  refine LW.on 247 rfl rfl ?_
                                  refine LW.move rfl rfl ?_
                                  refine LW.on 247 rfl rfl ?_
                                  refine LW.move rfl rfl ?_
                                  refine LW.on 247 rfl rfl ?_
                                  refine LW.indexAt rfl rfl Tryd.underlying22 FactsLawAll.ixs22 (by omega) (by omega) rfl ?_
                                  refine LW.on 247 rfl rfl ?_
                                  refine LW.loadRd (v := .bool true) rfl (hA3.rd (Take.none _)) (by simpa using hki) FactsLawAll.one4 rfl ?_
                                  refine LW.on 247 rfl rfl ?_
                                  refine LW.not _ rfl rfl rfl ?_
                                  refine LW.on 247 rfl rfl ?_
                                  refine LW.move rfl rfl ?_
                                  refine LW.off 253 rfl rfl rfl rfl ?_
                                  refine LW.off 253 rfl rfl rfl rfl ?_
                                  refine LW.off 253 rfl rfl rfl rfl ?_
                                  refine LW.off 253 rfl rfl rfl rfl ?_
                                  refine LW.on 247 rfl rfl ?_
                                  refine LW.pickF rfl rfl rfl ?_
                                  refine LW.pickF rfl rfl rfl ?_
                                  refine LW.move rfl rfl ?_
                                  refine LW.on 260 rfl rfl ?_
                                  refine LW.move rfl rfl ?_
                                  refine LW.on 260 rfl rfl ?_
                                  refine LW.call (bin_Err W B rp v' false rch) Tryd.func32 rfl FactsLawAll.fname32 ⟨rfl, trivial⟩ ((by repeat (first | exact Take.head _ _ | apply Take.tail))) rfl ?_
                                  rintro _ _ ⟨rfl, rfl⟩
                                  refine LW.on 260 rfl rfl ?_
                                  refine LW.eql false rfl rfl (rfl) rfl ?_
                                  refine LW.on 260 rfl rfl ?_
                                  refine LW.move rfl rfl ?_
                                  refine LW.on 260 rfl rfl ?_
                                  refine LW.boolNeq (false) rfl rfl Tryd.underlying4 (rfl) rfl ?_
                                  refine LW.pickF rfl rfl rfl ?_
                                  refine LW.nil ?_
                                  refine NW.then_ ?_
                                  refine CW.cond_false rfl ?_
                                  refine CW.skip ?_
                                  refine NW.then_ ?_
                                  refine CW.region ?_
                                  refine LW.move rfl rfl ?_
                                  refine LW.move rfl rfl ?_
                                  refine LW.add64 rfl rfl (by omega) (by omega) rfl ?_
                                  refine LW.assign rfl rfl ?_
                                  refine LW.nil ?_
                                  refine NW.block ?_
                                  refine NW.then_ ?_
                                  refine CW.region ?_
                                  refine LW.move rfl rfl ?_
                                  refine LW.add64 rfl rfl (by omega) (by omega) rfl ?_
                                  refine LW.assign rfl rfl ?_
                                  refine LW.nil ?_
                                  refine NW.meet ((i + 1, at' + (gm + k), false, v')) ?j20 ?e20 ?h20
                                  case j20 => exact ⟨⟨by omega, by dsimp only; omega, fun _ => hrd2⟩, by dsimp only; omega⟩
                                  case e20 => repeat (first | exact Env.Le.nil _ | refine Env.Le.cons rfl ?_)
                                  case h20 => repeat (first | exact Sub.heap_nil _ | exact Sub.refl _ | refine Sub.heap_cons (by repeat (first | exact Take.head _ _ | apply Take.tail)) ?_)
                        · refine LW.move rfl rfl ?_
                          refine LW.cut (at') (cs.length) (cpc) (some _) none none rfl Tryd.underlying26 FactsLawAll.szt5 (fun a hf => congrArg some (hf.eval rfl)) (fun a hf => rfl) (fun a hf => rfl) (.inr ⟨_, rfl⟩) (.inl ⟨rfl, rfl, rfl⟩) (.inl ⟨rfl, rfl⟩) (by omega) (by omega) (by omega) (by omega) rfl ?_
                          rw [← hdl]
                          refine LW.call (ref_GetInt' W B chb (cutA Ac cpc at' 1) (cpc - at') (cs.drop at') hsd (by omega) _ _ hgot) Tryd.func35 rfl FactsLawAll.fname35 ⟨rfl, trivial⟩ ((by repeat (first | exact Take.head _ _ | apply Take.tail))) rfl ?_
                          rintro _ _ ⟨rfl, rfl⟩
                          refine LW.move rfl rfl ?_
                          refine LW.extract rfl rfl rfl ?_
                          refine LW.extract rfl rfl rfl ?_
                          refine LW.assign rfl rfl ?_
                          refine LW.assign rfl rfl ?_
                          refine LW.nil ?_
                          refine NW.then_ ?_
                          refine CW.seq ?_
                          refine CW.region ?_
                          refine LW.assign rfl rfl ?_
                          refine LW.nil ?_
                          refine NW.then_ ?_
                          refine CW.seq ?_
                          refine CW.region ?_
                          refine LW.move rfl rfl ?_
                          refine LW.move rfl rfl ?_
                          refine LW.off 192 rfl rfl rfl rfl ?_
                          refine LW.off 192 rfl rfl rfl rfl ?_
                          refine LW.pickT rfl rfl rfl ?_
                          refine LW.assign rfl rfl ?_
                          refine LW.nil ?_
                          refine NW.then_ ?_
                          refine CW.seq ?_
                          refine CW.seq ?_
                          refine CW.region ?_
                          refine LW.move rfl rfl ?_
                          refine LW.not _ rfl rfl rfl ?_
                          refine LW.move rfl rfl ?_
                          refine LW.off 198 rfl rfl rfl rfl ?_
                          refine LW.off 198 rfl rfl rfl rfl ?_
                          refine LW.off 198 rfl rfl rfl rfl ?_
                          refine LW.off 198 rfl rfl rfl rfl ?_
                          refine LW.pickF rfl rfl rfl ?_
                          refine LW.nil ?_
                          refine NW.then_ ?_
                          refine CW.cond_false rfl ?_
                          refine CW.skip ?_
                          refine NW.then_ ?_
                          refine CW.seq ?_
                          refine CW.seq ?_
                          refine CW.region ?_
                          refine LW.move rfl rfl ?_
                          refine LW.nil ?_
                          refine NW.then_ ?_
                          refine CW.cond_true rfl ?_
                          refine CW.region ?_
                          refine LW.assign rfl rfl ?_
                          refine LW.assign rfl rfl ?_
                          refine LW.nil ?_
                          refine NW.then_ ?_
                          refine CW.seq ?_
                          refine CW.seq ?_
                          refine CW.region ?_
                          refine LW.move rfl rfl ?_
                          refine LW.move rfl rfl ?_
                          refine LW.indexAt rfl rfl Tryd.underlying22 FactsLawAll.ixs22 (by omega) (by omega) rfl ?_
                          refine LW.loadRd (v := .bool true) rfl (hA3.rd (Take.none _)) (by simpa using hki) FactsLawAll.one4 rfl ?_
                          refine LW.move rfl rfl ?_
                          refine LW.on 241 rfl rfl ?_
                          refine LW.move rfl rfl ?_
                          refine LW.on 241 rfl rfl ?_
                          refine LW.call (bin_RText_bad W B rp v rch 10) Tryd.func33 rfl FactsLawAll.fname33 ⟨rfl, rfl, trivial⟩ ((by repeat (first | exact Take.head _ _ | apply Take.tail))) rfl ?_
                          rintro _ _ ⟨rfl, rfl⟩
                          refine LW.on 241 rfl rfl ?_
                          refine LW.move rfl rfl ?_
                          refine LW.on 241 rfl rfl ?_
                          refine LW.strNeq (false) rfl rfl Tryd.underlying9 (decide_eq_false (by simp)) rfl ?_
                          refine LW.pickT rfl rfl rfl ?_
                          refine LW.move rfl rfl ?_
                          refine LW.on 247 rfl rfl ?_
                          refine LW.move rfl rfl ?_
                          refine LW.on 247 rfl rfl ?_
                          refine LW.move rfl rfl ?_
                          refine LW.on 247 rfl rfl ?_
                          refine LW.indexAt rfl rfl Tryd.underlying22 FactsLawAll.ixs22 (by omega) (by omega) rfl ?_
                          refine LW.on 247 rfl rfl ?_
                          refine LW.loadRd (v := .bool true) rfl (hA3.rd (Take.none _)) (by simpa using hki) FactsLawAll.one4 rfl ?_
                          refine LW.on 247 rfl rfl ?_
                          refine LW.not _ rfl rfl rfl ?_
                          refine LW.on 247 rfl rfl ?_
                          refine LW.move rfl rfl ?_
                          refine LW.off 253 rfl rfl rfl rfl ?_
                          refine LW.off 253 rfl rfl rfl rfl ?_
                          refine LW.off 253 rfl rfl rfl rfl ?_
                          refine LW.off 253 rfl rfl rfl rfl ?_
                          refine LW.on 247 rfl rfl ?_
                          refine LW.pickF rfl rfl rfl ?_
                          refine LW.pickF rfl rfl rfl ?_
                          refine LW.move rfl rfl ?_
                          refine LW.on 260 rfl rfl ?_
                          refine LW.move rfl rfl ?_
                          refine LW.on 260 rfl rfl ?_
                          refine LW.call (bin_Err W B rp v true rch) Tryd.func32 rfl FactsLawAll.fname32 ⟨rfl, trivial⟩ ((by repeat (first | exact Take.head _ _ | apply Take.tail))) rfl ?_
                          rintro _ _ ⟨rfl, rfl⟩
                          refine LW.on 260 rfl rfl ?_
                          refine LW.eql true rfl rfl (rfl) rfl ?_
                          refine LW.on 260 rfl rfl ?_
                          refine LW.move rfl rfl ?_
                          refine LW.on 260 rfl rfl ?_
                          refine LW.boolNeq (false) rfl rfl Tryd.underlying4 (rfl) rfl ?_
                          refine LW.pickF rfl rfl rfl ?_
                          refine LW.nil ?_
                          refine NW.then_ ?_
                          refine CW.cond_false rfl ?_
                          refine CW.skip ?_
                          refine NW.then_ ?_
                          refine CW.region ?_
                          refine LW.move rfl rfl ?_
                          refine LW.move rfl rfl ?_
                          refine LW.add64 rfl rfl (by omega) (by omega) rfl ?_
                          refine LW.assign rfl rfl ?_
                          refine LW.nil ?_
                          refine NW.block ?_
                          refine NW.then_ ?_
                          refine CW.region ?_
                          refine LW.move rfl rfl ?_
                          refine LW.add64 rfl rfl (by omega) (by omega) rfl ?_
                          refine LW.assign rfl rfl ?_
                          refine LW.nil ?_
                          refine NW.meet ((i + 1, at', true, v)) ?j21 ?e21 ?h21
                          case j21 => exact ⟨⟨by omega, hat, fun h => by cases h⟩, by dsimp only; omega⟩
                          case e21 => repeat (first | exact Env.Le.nil _ | refine Env.Le.cons rfl ?_)
                          case h21 => repeat (first | exact Sub.heap_nil _ | exact Sub.refl _ | refine Sub.heap_cons (by repeat (first | exact Take.head _ _ | apply Take.tail)) ?_)
                    · replace hc181 := of_decide_eq_false hc181
                      try dsimp only at hc181
                      refine CW.exit ?_
                      refine NW.then_exit ?_
                      refine NW.then_exit ?_
                      refine NW.block_exit ?_
                      refine NW.meet ((at', bad, v)) ?j22 ?e22 ?h22
                      case j22 => exact ⟨hat, hbad⟩
                      case e22 => repeat (first | exact Env.Le.nil _ | refine Env.Le.cons rfl ?_)
                      case h22 => repeat (first | exact Sub.heap_nil _ | exact Sub.refl _ | refine Sub.heap_cons (by repeat (first | exact Take.head _ _ | apply Take.tail)) ?_)
                  · refine LW.lss false rfl rfl (decide_eq_false (by omega)) rfl ?_
                    refine LW.move rfl rfl ?_
                    refine LW.off 178 rfl rfl rfl rfl ?_
                    refine LW.off 178 rfl rfl rfl rfl ?_
                    refine LW.pickF rfl rfl rfl ?_
                    refine LW.nil ?_
                    refine NW.then_ ?_
                    refine CW.cond_false rfl ?_
                    refine CW.exit ?_
                    refine NW.then_exit ?_
                    refine NW.then_exit ?_
                    refine NW.block_exit ?_
                    refine NW.meet ((at', bad, v)) ?j23 ?e23 ?h23
                    case j23 => exact ⟨hat, hbad⟩
                    case e23 => repeat (first | exact Env.Le.nil _ | refine Env.Le.cons rfl ?_)
                    case h23 => repeat (first | exact Sub.heap_nil _ | exact Sub.refl _ | refine Sub.heap_cons (by repeat (first | exact Take.head _ _ | apply Take.tail)) ?_)
              case cut53_2 =>
                rintro ⟨at', bad, v⟩ ⟨hat, hbad⟩; dsimp only at hat hbad
                try dsimp only
                refine CW.seq ?_
                have hdl : (cs.drop at').length = cs.length - at' := List.length_drop
                refine CW.region ?_
                cases bad
                · refine LW.move rfl rfl ?_
                  by_cases hend : at' = cs.length
                  · refine LW.call (bin_End W B rp v false (cs.drop at') rch (hbad rfl)) Tryd.func34 rfl FactsLawAll.fname34 ⟨rfl, trivial⟩ ((by repeat (first | exact Take.head _ _ | apply Take.tail))) rfl ?_
                    rintro _ _ ⟨rfl, rfl⟩; rw [if_neg (by simp), if_pos (by omega)]
                    refine LW.eql true rfl rfl (rfl) rfl ?_
                    refine LW.move rfl rfl ?_
                    refine LW.not _ rfl rfl rfl ?_
                    refine LW.move rfl rfl ?_
                    refine LW.on 275 rfl rfl ?_
                    refine LW.move rfl rfl ?_
                    refine LW.on 275 rfl rfl ?_
                    refine LW.move rfl rfl ?_
                    refine LW.on 275 rfl rfl ?_
                    refine LW.lenSlice rfl Tryd.underlying26 rfl ?_
                    refine LW.on 275 rfl rfl ?_
                    refine LW.eql true rfl rfl (beq_iff_eq.2 (by omega)) rfl ?_
                    refine LW.pickT rfl rfl rfl ?_
                    refine LW.boolNeq (false) rfl rfl Tryd.underlying4 (rfl) rfl ?_
                    refine LW.nil ?_
                    refine NW.then_ ?_
                    refine CW.cond_false rfl ?_
                    refine CW.skip ?_
                    refine NW.block ?_
                    refine NW.then_ ?_
                    refine CW.region ?_
                    refine LW.add64 rfl rfl (by omega) (by omega) rfl ?_
                    refine LW.move rfl rfl ?_
                    refine LW.nil ?_
                    refine NW.meet (j + 1) ?j24 ?e24 ?h24
                    case j24 => exact ⟨by omega, by omega⟩
                    case e24 => repeat (first | exact Env.Le.nil _ | refine Env.Le.cons rfl ?_)
                    case h24 => repeat (first | exact Sub.heap_nil _ | exact Sub.refl _ | refine Sub.heap_cons (by repeat (first | exact Take.head _ _ | apply Take.tail)) ?_)
                  · refine LW.call (bin_End W B rp v false (cs.drop at') rch (hbad rfl)) Tryd.func34 rfl FactsLawAll.fname34 ⟨rfl, trivial⟩ ((by repeat (first | exact Take.head _ _ | apply Take.tail))) rfl ?_
                    rintro _ _ ⟨rfl, rfl⟩; rw [if_neg (by simp), if_neg (by omega)]
                    refine LW.eql false rfl rfl (rfl) rfl ?_
                    refine LW.move rfl rfl ?_
                    refine LW.not _ rfl rfl rfl ?_
                    refine LW.move rfl rfl ?_
                    refine LW.on 275 rfl rfl ?_
                    refine LW.move rfl rfl ?_
                    refine LW.on 275 rfl rfl ?_
                    refine LW.move rfl rfl ?_
                    refine LW.on 275 rfl rfl ?_
                    refine LW.lenSlice rfl Tryd.underlying26 rfl ?_
                    refine LW.on 275 rfl rfl ?_
                    refine LW.eql false rfl rfl (beq_eq_false_iff_ne.2 (by omega)) rfl ?_
                    refine LW.pickT rfl rfl rfl ?_
                    refine LW.boolNeq (false) rfl rfl Tryd.underlying4 (rfl) rfl ?_
                    refine LW.nil ?_
                    refine NW.then_ ?_
                    refine CW.cond_false rfl ?_
                    refine CW.skip ?_
                    refine NW.block ?_
                    refine NW.then_ ?_
                    refine CW.region ?_
                    refine LW.add64 rfl rfl (by omega) (by omega) rfl ?_
                    refine LW.move rfl rfl ?_
                    refine LW.nil ?_
                    refine NW.meet (j + 1) ?j25 ?e25 ?h25
                    case j25 => exact ⟨by omega, by omega⟩
                    case e25 => repeat (first | exact Env.Le.nil _ | refine Env.Le.cons rfl ?_)
                    case h25 => repeat (first | exact Sub.heap_nil _ | exact Sub.refl _ | refine Sub.heap_cons (by repeat (first | exact Take.head _ _ | apply Take.tail)) ?_)
                · refine LW.move rfl rfl ?_
                  refine LW.call (bin_EndBad W B rp v rch) Tryd.func34 rfl FactsLawAll.fname34 ⟨rfl, trivial⟩ ((by repeat (first | exact Take.head _ _ | apply Take.tail))) rfl ?_
                  rintro _ _ ⟨rfl, rfl⟩
                  refine LW.eql false rfl rfl (rfl) rfl ?_
                  refine LW.move rfl rfl ?_
                  refine LW.not _ rfl rfl rfl ?_
                  refine LW.move rfl rfl ?_
                  refine LW.off 275 rfl rfl rfl rfl ?_
                  refine LW.off 275 rfl rfl rfl rfl ?_
                  refine LW.off 275 rfl rfl rfl rfl ?_
                  refine LW.off 275 rfl rfl rfl rfl ?_
                  refine LW.pickF rfl rfl rfl ?_
                  refine LW.boolNeq (false) rfl rfl Tryd.underlying4 (rfl) rfl ?_
                  refine LW.nil ?_
                  refine NW.then_ ?_
                  refine CW.cond_false rfl ?_
                  refine CW.skip ?_
                  refine NW.block ?_
                  refine NW.then_ ?_
                  refine CW.region ?_
                  refine LW.add64 rfl rfl (by omega) (by omega) rfl ?_
                  refine LW.move rfl rfl ?_
                  refine LW.nil ?_
                  refine NW.meet (j + 1) ?j26 ?e26 ?h26
                  case j26 => exact ⟨by omega, by omega⟩
                  case e26 => repeat (first | exact Env.Le.nil _ | refine Env.Le.cons rfl ?_)
                  case h26 => repeat (first | exact Sub.heap_nil _ | exact Sub.refl _ | refine Sub.heap_cons (by repeat (first | exact Take.head _ _ | apply Take.tail)) ?_)
            · replace hc169 := of_decide_eq_false hc169
              try dsimp only at hc169
              refine CW.exit ?_
              refine NW.then_exit ?_
              refine NW.then_exit ?_
              refine NW.block_exit ?_
              refine NW.then_ ?_
              refine CW.seq ?_
              refine CW.region ?_
              refine LW.assign rfl rfl ?_
              refine LW.nil ?_
              refine NW.then_ ?_
              refine CW.ret ?_
              refine NW.ret1 rfl rfl ⟨_, ⟨rfl, rfl⟩, ?_⟩
              exact Sub.nil _
end
end Go.Proofs.YtmgpldgldgdenaaDoor
