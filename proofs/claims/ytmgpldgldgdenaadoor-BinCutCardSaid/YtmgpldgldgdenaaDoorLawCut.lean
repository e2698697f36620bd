/-
  BinCut, walked.
-/
import Derived.Test.YtmgpldgldgdenaaDoorLawUnlike
import Derived.Test.YtmgpldgldgdenaaDoorLawText
import Derived.Test.YtmgpldgldgdenaaDoorCutDef
import Derived.Test.YtmgpldgldgdenaaDoorRef1
namespace Go.Proofs.YtmgpldgldgdenaaDoor
open Go.RowKit
namespace FactsLawCut
theorem fname16 : (Tryd.f16.name == "runtime.NumGoroutine") = false := by kernel_rfl
theorem fname24 : (Tryd.f24.name == "runtime.NumGoroutine") = false := by kernel_rfl
theorem fname25 : (Tryd.f25.name == "runtime.NumGoroutine") = false := by kernel_rfl
theorem fname29 : (Tryd.f29.name == "runtime.NumGoroutine") = false := by kernel_rfl
theorem fname30 : (Tryd.f30.name == "runtime.NumGoroutine") = false := by kernel_rfl
theorem fname31 : (Tryd.f31.name == "runtime.NumGoroutine") = false := by kernel_rfl
theorem fname32 : (Tryd.f32.name == "runtime.NumGoroutine") = false := by kernel_rfl
theorem fname34 : (Tryd.f34.name == "runtime.NumGoroutine") = false := by kernel_rfl
theorem ixs36 : (Tryd.prog.info? 2).map (·.size) = some 1 := by kernel_rfl
theorem one2 : oneB Tryd.prog 2 = true := by kernel_rfl
theorem szt2 : (Tryd.prog.info? 2).map (·.size) = some 1 := by kernel_rfl
theorem szt5 : (Tryd.prog.info? 5).map (·.size) = some 1 := by kernel_rfl
theorem zero39 : (Tryd.prog.info? 39).bind (·.zero) = some (.agg #[.slice none 0 0]) := by kernel_rfl
end FactsLawCut
section
variable (W : World) (B : Nat)
theorem law_BinCut (h0 : 0 < B) (hg : W.cell? ⟨0, 0, none⟩ = some (rty 80)) (A : Option Addr) (cp : Nat) (ns : List Int) (hac : ns.length ≤ cp) (hA : Src W B [] A (ns.map i64v)) (hIa : ∀ n ∈ ns, I64 n) (cut0 : Int) :
    Spec Tryd.prog W B 6 [.slice A ns.length cp, .int .i64 cut0] [] (fun v post => v = .bool true ∧ post = []) := by
  have hma := take_min ns 15
  have hsa := hA.sub 15
  rw [← List.map_take] at hsa
  have hla : (ns.take 15).length ≤ ns.length := by rw [List.length_take]; omega
  have hla8 : (ns.take 15).length ≤ 15 := by rw [List.length_take]; omega
  have hIa' : ∀ n ∈ ns.take 15, I64 n := fun n hn => hIa n (List.mem_of_mem_take hn)
  generalize ns.take 15 = la at hma hsa hla hla8 hIa'
  have hea := encs_len la
  refine Spec.enter ([]) Tryd.func6 rfl Tryd.ntmps6 rfl (by first | rfl | simp) (fun w0 => ?_)
  refine CW.seq ?_
  refine CW.region ?_
  refine LW.assign rfl rfl ?_
  refine LW.nil ?_
  refine NW.then_ ?_
  refine CW.seq ?_
  refine CW.region ?_
  refine LW.call (law_begun W B h0 hg) Tryd.func16 rfl FactsLawCut.fname16 trivial (Take.none _) rfl ?_
  rintro _ _ ⟨rfl, rfl⟩
  refine LW.assign rfl rfl ?_
  refine LW.nil ?_
  refine NW.then_ ?_
  refine CW.seq ?_
  refine CW.seq ?_
  refine CW.region ?_
  refine LW.move rfl rfl ?_
  refine LW.not (false) rfl (rfl) rfl ?_
  refine LW.nil ?_
  refine NW.then_ ?_
  refine CW.cond_false rfl ?_
  refine CW.skip ?_
  refine NW.then_ ?_
  refine CW.seq ?_
  refine CW.region ?_
  refine LW.alloc FactsLawCut.zero39 rfl ?_
  intro ba6
  refine LW.nil ?_
  refine NW.then_ ?_
  refine CW.seq ?_
  refine CW.region ?_
  refine LW.move rfl rfl ?_
  refine LW.move rfl rfl ?_
  refine LW.lenSlice rfl Tryd.underlying36 rfl ?_
  refine LW.min2 ((la.length : Int)) rfl rfl (hma) rfl ?_
  refine LW.cutTo (la.length) rfl rfl Tryd.underlying36 FactsLawCut.szt2 (hla) (hac) rfl ?_
  refine LW.assign rfl rfl ?_
  refine LW.nil ?_
  refine NW.then_ ?_
  refine CW.seq ?_
  refine CW.region ?_
  refine LW.move rfl rfl ?_
  refine LW.call (bin_WInt W B ba6 (.slice none 0 0) [] [] OwnB.nil la hIa' [] A cp hsa (by simp only [List.length_nil]; omega)) Tryd.func24 rfl FactsLawCut.fname24 ⟨rfl, rfl, trivial⟩ (Take.both (Take.none _) (Take.both (by repeat (first | exact Take.head _ _ | apply Take.tail)) (Take.none _))) rfl ?_
  rintro _ _ ⟨rfl, v1, ch1, ho1, rfl⟩; rw [List.nil_append] at ho1; refine LW.split2 ?_
  refine LW.nil ?_
  refine NW.then_ ?_
  refine CW.seq ?_
  refine CW.region ?_
  refine LW.call (bin_WBytes W B ba6 v1 (encs la) ch1 ho1 (by omega)) Tryd.func29 rfl FactsLawCut.fname29 ⟨rfl, trivial⟩ (by repeat (first | exact Take.head _ _ | apply Take.tail)) rfl ?_
  rintro v3 _ ⟨ch3, ho3, rfl⟩; obtain ⟨A3, cp3, rfl, hA3, hc3⟩ := OwnS.val ho3; refine LW.split2 ?_
  refine LW.assign rfl rfl ?_
  refine LW.nil ?_
  refine NW.then_ ?_
  refine CW.seq ?_
  refine CW.seq ?_
  refine CW.region ?_
  refine LW.move rfl rfl ?_
  refine LW.lenSlice rfl Tryd.underlying26 rfl ?_
  by_cases he : (encs la).length = 0
  · refine LW.eql true rfl rfl (beq_iff_eq.2 (by omega)) rfl ?_
    refine LW.nil ?_
    refine NW.then_ ?_
    refine CW.cond_true rfl ?_
    refine CW.seq ?_
    refine CW.region ?_
    refine LW.move rfl rfl ?_
    refine LW.lenSlice rfl Tryd.underlying36 rfl ?_
    refine LW.eql true rfl rfl ((by have := encs_empty he; exact beq_iff_eq.2 (by omega))) rfl ?_
    refine LW.move rfl rfl ?_
    refine LW.on 29 rfl rfl ?_
    refine LW.move rfl rfl ?_
    refine LW.on 29 rfl rfl ?_
    refine LW.call (bin_NewReader W B ch3 A3 cp3 (encs la) (OwnS.src ho3) hA3 (by omega)) Tryd.func30 rfl FactsLawCut.fname30 ⟨rfl, trivial⟩ (by repeat (first | exact Take.head _ _ | apply Take.tail)) rfl ?_
    rintro _ _ ⟨rp, rv, rch, rfl, hrd, rfl⟩; refine LW.split2 ?_
    refine LW.on 29 rfl rfl ?_
    refine LW.call (bin_End W B rp rv false (encs la) rch hrd) Tryd.func34 rfl FactsLawCut.fname34 ⟨rfl, trivial⟩ (by repeat (first | exact Take.head _ _ | apply Take.tail)) rfl ?_
    rintro _ _ ⟨rfl, rfl⟩; rw [if_neg (by simp), if_pos he]
    refine LW.on 29 rfl rfl ?_
    refine LW.eql true rfl rfl (rfl) rfl ?_
    refine LW.pickT rfl rfl rfl ?_
    refine LW.assign rfl rfl ?_
    refine LW.nil ?_
    refine NW.then_ ?_
    refine CW.ret ?_
    refine NW.then_ret ?_
    refine NW.ret1 rfl rfl ⟨_, ⟨rfl, rfl⟩, ?_⟩
    exact Sub.nil _
  · refine LW.eql false rfl rfl (beq_eq_false_iff_ne.2 (by omega)) rfl ?_
    refine LW.nil ?_
    refine NW.then_ ?_
    refine CW.cond_false rfl ?_
    refine CW.skip ?_
    refine NW.then_ ?_
    refine CW.seq ?_
    obtain ⟨cut, hcut, hcl, hc1, hc2⟩ := mod_pos cut0 ((encs la).length : Int) (by omega) (by omega)
    have hsb := (OwnS.src (W := W) (B := B) ho3).sub cut
    rw [← List.map_take] at hsb
    have hbt : ((encs la).take cut).length = cut := by rw [List.length_take]; omega
    have hok := fun i hi hx => step_ok la i cut hi hx
    have hno := fun i hi => step_no la i cut hi
    generalize (encs la).take cut = bt at hsb hbt hok hno
    refine CW.region ?_
    refine LW.move rfl rfl ?_
    refine LW.move rfl rfl ?_
    refine LW.lenSlice rfl Tryd.underlying26 rfl ?_
    refine LW.rem (cut0.tmod ((encs la).length : Int)) rfl rfl (by omega) (rfl) rfl ?_
    refine LW.move rfl rfl ?_
    refine LW.lenSlice rfl Tryd.underlying26 rfl ?_
    refine LW.add (cut0.tmod ((encs la).length : Int) + ((encs la).length : Int)) rfl rfl (by first | rfl | exact wr64 (by omega) (by omega) (by omega)) rfl ?_
    refine LW.move rfl rfl ?_
    refine LW.lenSlice rfl Tryd.underlying26 rfl ?_
    refine LW.rem ((bt.length : Int)) rfl rfl (by omega) ((by rw [hbt]; exact hcut)) rfl ?_
    refine LW.assign rfl rfl ?_
    refine LW.nil ?_
    refine NW.then_ ?_
    refine CW.seq ?_
    refine CW.region ?_
    refine LW.move rfl rfl ?_
    refine LW.move rfl rfl ?_
    refine LW.cutTo (bt.length) rfl rfl Tryd.underlying26 FactsLawCut.szt5 (by omega) (by omega) rfl ?_
    refine LW.call (bin_NewReader W B ch3 A3 cp3 bt hsb (fun h => by have := hA3 h; omega) (by omega)) Tryd.func30 rfl FactsLawCut.fname30 ⟨rfl, trivial⟩ (by repeat (first | exact Take.head _ _ | apply Take.tail)) rfl ?_
    rintro _ _ ⟨rp, rv, rch, rfl, hrd, rfl⟩; refine LW.split2 ?_
    refine LW.assign rfl rfl ?_
    refine LW.nil ?_
    refine NW.then_ ?_
    refine CW.seq ?_
    refine CW.region ?_
    refine LW.assign rfl rfl ?_
    refine LW.nil ?_
    refine NW.then_ ?_
    refine CW.seq ?_
    refine CW.seq ?_
    refine CW.region ?_
    refine LW.move rfl rfl ?_
    refine LW.lenSlice rfl Tryd.underlying36 rfl ?_
    refine LW.move rfl rfl ?_
    refine LW.nil ?_
    refine NW.then_ ?_
    refine CW.block ?_
    refine CW.loop (fun st : Nat × Value × Bool => [(51, .int .i64 (st.1 : Int)), (50, .int .i64 (la.length : Int)), (9, .int .i64 (reach la st.1 : Int)), (8, .pointer (some ⟨rp, 0, none⟩)), (1, .int .i64 (bt.length : Int)), (0, .slice A la.length cp)]) (fun st => [[cr rp 96 [st.2.1, .bool st.2.2]] ++ rch]) (fun st => st.1 ≤ la.length ∧ ((reach la st.1 ≤ cut ∧ st.2.2 = false ∧ RdS W B st.2.1 (bt.drop (reach la st.1)) rch) ∨ (cut < reach la st.1 ∧ st.2.2 = true))) (fun st => la.length - st.1) (0, rv, false) ?st14_j ?st14_e ?st14_h ?st14_r
    case st14_j => exact ⟨Nat.zero_le _, .inl ⟨Nat.zero_le _, rfl, hrd⟩⟩
    case st14_e => repeat (first | exact Env.Le.nil _ | refine Env.Le.cons rfl ?_)
    case st14_h => repeat (first | exact Sub.heap_nil _ | exact Sub.refl _ | refine Sub.heap_cons (by repeat (first | exact Take.head _ _ | apply Take.tail)) ?_)
    case st14_r =>
      rintro ⟨i, v, bad⟩ ⟨hi, hst⟩; dsimp only at hi hst
      refine CW.seq ?_
      refine CW.region ?_
      refine LW.lss (decide ((i : Int) < (la.length : Int))) rfl rfl (rfl) rfl ?_
      refine LW.nil ?_
      refine NW.then_ ?_
      refine CW.seq ?_
      refine CW.cond rfl (fun hc52 => ?_) (fun hc52 => ?_)
      · have hin : i < la.length := by simpa using hc52
        obtain ⟨a1, rfl⟩ : ∃ x, A = some x := hsa.some (by rw [List.length_map]; omega)
        have hg1 : (la.map i64v)[i]? = some (i64v (la.getD i 0)) := by simp [List.getD, List.getElem?_eq_getElem hin]
        have hI : I64 (la.getD i 0) := hIa' _ (List.mem_of_getElem? (show la[i]? = some (la.getD i 0) by simp [List.getD, List.getElem?_eq_getElem hin]))
        have hrs := reach_succ la i hin
        have hz := sizeZ_le (la.getD i 0)
        have hok' := hok i hin hI
        have hno' := hno i hin
        have hre : reach la i ≤ 9 * la.length := Nat.le_trans (encs_len _) (by rw [List.length_take]; omega)
        generalize la.getD i 0 = x at hg1 hI hrs hz hok'
        refine CW.skip ?_
        refine NW.then_ ?_
        refine CW.seq ?_
        refine CW.block ?_
        refine CW.seq ?_
        refine CW.region ?_
        refine LW.move rfl rfl ?_
        refine LW.assign rfl rfl ?_
        refine LW.nil ?_
        refine NW.then_ ?_
        refine CW.seq ?_
        refine CW.region ?_
        refine LW.move rfl rfl ?_
        refine LW.move rfl rfl ?_
        refine LW.move rfl rfl ?_
        refine LW.indexAt rfl rfl Tryd.underlying36 FactsLawCut.ixs36 (by omega) (by omega) rfl ?_
        refine LW.loadRd (v := .int .i64 x) rfl (hsa.rd (Take.none _)) (by simpa [i64v] using hg1) FactsLawCut.one2 rfl ?_
        refine LW.call (ref_Int W B x hI) Tryd.func25 rfl FactsLawCut.fname25 ⟨rfl, trivial⟩ (Take.none _) rfl ?_
        rintro v4 _ ⟨ch4, ho4, rfl⟩; obtain ⟨A4, cp4, rfl, _, _⟩ := OwnS.val ho4; have hel := encZ_len x
        refine LW.lenSlice rfl Tryd.underlying26 rfl ?_
        refine LW.add ((reach la (i + 1) : Int)) rfl rfl ((by rw [hel, hrs]; exact wr64 (by show (reach la i : Int) + ((sizeZ x + 1 : Nat) : Int) = ((reach la i + (sizeZ x + 1) : Nat) : Int); omega) (by omega) (by omega))) rfl ?_
        refine LW.assign rfl rfl ?_
        refine LW.nil ?_
        refine NW.then_ ?_
        refine CW.seq ?_
        refine CW.region ?_
        by_cases hnx : reach la (i + 1) ≤ cut
        · refine LW.move rfl rfl ?_
          obtain ⟨hlo, rfl, hrd1⟩ : reach la i ≤ cut ∧ bad = false ∧ RdS W B v (bt.drop (reach la i)) rch := by
            rcases hst with h | h
            · exact h
            · omega
          obtain ⟨hgz, hdz⟩ := hok' hnx
          refine LW.call (bin_RInt_some W B rp v (bt.drop (reach la i)) rch hrd1 (by rw [List.length_drop]; omega) x _ hgz) Tryd.func31 rfl FactsLawCut.fname31 ⟨rfl, trivial⟩ (by repeat (first | exact Take.head _ _ | apply Take.tail)) rfl ?_
          rintro _ _ ⟨rfl, v', hrd2, rfl⟩; rw [hdz] at hrd2
          refine LW.assign rfl rfl ?_
          refine LW.nil ?_
          refine NW.then_ ?_
          refine CW.seq ?_
          refine CW.region ?_
          refine LW.move rfl rfl ?_
          refine LW.move rfl rfl ?_
          refine LW.leq true rfl rfl (decide_eq_true (by omega)) rfl ?_
          refine LW.move rfl rfl ?_
          refine LW.on 67 rfl rfl ?_
          refine LW.move rfl rfl ?_
          refine LW.on 67 rfl rfl ?_
          refine LW.move rfl rfl ?_
          refine LW.on 67 rfl rfl ?_
          refine LW.move rfl rfl ?_
          refine LW.on 67 rfl rfl ?_
          refine LW.indexAt rfl rfl Tryd.underlying36 FactsLawCut.ixs36 (by omega) (by omega) rfl ?_
          refine LW.on 67 rfl rfl ?_
          refine LW.loadRd (v := .int .i64 x) rfl (hsa.rd (Take.none _)) (by simpa [i64v] using hg1) FactsLawCut.one2 rfl ?_
          refine LW.on 67 rfl rfl ?_
          refine LW.neq false rfl rfl (by simp) rfl ?_
          refine LW.on 67 rfl rfl ?_
          refine LW.move rfl rfl ?_
          refine LW.on 74 rfl rfl ?_
          refine LW.move rfl rfl ?_
          refine LW.on 74 rfl rfl ?_
          refine LW.call (bin_Err W B rp v' false rch) Tryd.func32 rfl FactsLawCut.fname32 ⟨rfl, trivial⟩ (by repeat (first | exact Take.head _ _ | apply Take.tail)) rfl ?_
          rintro _ _ ⟨rfl, rfl⟩
          refine LW.on 74 rfl rfl ?_
          refine LW.neq false rfl rfl (rfl) rfl ?_
          refine LW.on 67 rfl rfl ?_
          refine LW.pickF rfl rfl rfl ?_
          refine LW.pickT rfl rfl rfl ?_
          refine LW.move rfl rfl ?_
          refine LW.on 80 rfl rfl ?_
          refine LW.move rfl rfl ?_
          refine LW.on 80 rfl rfl ?_
          refine LW.move rfl rfl ?_
          refine LW.on 80 rfl rfl ?_
          refine LW.gtr false rfl rfl ((by exact decide_eq_false (by show ¬ ((reach la (i + 1) : Int) > (bt.length : Int)); omega))) rfl ?_
          refine LW.on 80 rfl rfl ?_
          refine LW.move rfl rfl ?_
          refine LW.off 84 rfl rfl rfl rfl ?_
          refine LW.off 84 rfl rfl rfl rfl ?_
          refine LW.off 84 rfl rfl rfl rfl ?_
          refine LW.offU 87 rfl rfl rfl ?_
          refine LW.offU 87 rfl rfl rfl ?_
          refine LW.offU 87 rfl rfl rfl ?_
          refine LW.off 84 rfl rfl rfl rfl ?_
          refine LW.on 80 rfl rfl ?_
          refine LW.pickF rfl rfl rfl ?_
          refine LW.pickF rfl rfl rfl ?_
          refine LW.nil ?_
          refine NW.then_ ?_
          refine CW.cond_false rfl ?_
          refine CW.skip ?_
          refine NW.block ?_
          refine NW.then_ ?_
          refine CW.region ?_
          refine LW.add ((i + 1 : Int)) rfl rfl (by first | rfl | exact wr64 (by omega) (by omega) (by omega)) rfl ?_
          refine LW.move rfl rfl ?_
          refine LW.nil ?_
          refine NW.meet ((i + 1, v', false)) ?j1 ?e1 ?h1
          case j1 => exact ⟨⟨hin, .inl ⟨hnx, rfl, hrd2⟩⟩, by dsimp only; omega⟩
          case e1 => repeat (first | exact Env.Le.nil _ | refine Env.Le.cons rfl ?_)
          case h1 => repeat (first | exact Sub.heap_nil _ | exact Sub.refl _ | refine Sub.heap_cons (by repeat (first | exact Take.head _ _ | apply Take.tail)) ?_)
        · refine LW.move rfl rfl ?_
          rcases hst with ⟨hlo, rfl, hrd1⟩ | ⟨hlo, rfl⟩
          · refine LW.call (bin_RInt_none W B rp v (bt.drop (reach la i)) rch hrd1 (by rw [List.length_drop]; omega) (hno' hlo (by omega))) Tryd.func31 rfl FactsLawCut.fname31 ⟨rfl, trivial⟩ (by repeat (first | exact Take.head _ _ | apply Take.tail)) rfl ?_
            rintro _ _ ⟨rfl, rfl⟩
            refine LW.assign rfl rfl ?_
            refine LW.nil ?_
            refine NW.then_ ?_
            refine CW.seq ?_
            refine CW.region ?_
            refine LW.move rfl rfl ?_
            refine LW.move rfl rfl ?_
            refine LW.leq false rfl rfl (decide_eq_false (by omega)) rfl ?_
            refine LW.move rfl rfl ?_
            refine LW.off 67 rfl rfl rfl rfl ?_
            refine LW.off 67 rfl rfl rfl rfl ?_
            refine LW.off 67 rfl rfl rfl rfl ?_
            refine LW.off 67 rfl rfl rfl rfl ?_
            refine LW.off 67 rfl rfl rfl rfl ?_
            refine LW.off 67 rfl rfl rfl rfl ?_
            refine LW.off 67 rfl rfl rfl rfl ?_
            refine LW.offU 74 rfl rfl rfl ?_
            refine LW.offU 74 rfl rfl rfl ?_
            refine LW.offU 74 rfl rfl rfl ?_
            refine LW.off 67 rfl rfl rfl rfl ?_
            refine LW.pickF rfl rfl rfl ?_
            refine LW.move rfl rfl ?_
            refine LW.on 80 rfl rfl ?_
            refine LW.move rfl rfl ?_
            refine LW.on 80 rfl rfl ?_
            refine LW.move rfl rfl ?_
            refine LW.on 80 rfl rfl ?_
            refine LW.gtr true rfl rfl ((by exact decide_eq_true (by show ((reach la (i + 1) : Int) > (bt.length : Int)); omega))) rfl ?_
            refine LW.on 80 rfl rfl ?_
            refine LW.move rfl rfl ?_
            refine LW.on 84 rfl rfl ?_
            refine LW.move rfl rfl ?_
            refine LW.on 84 rfl rfl ?_
            refine LW.neq false rfl rfl (rfl) rfl ?_
            refine LW.on 84 rfl rfl ?_
            refine LW.move rfl rfl ?_
            refine LW.on 87 rfl rfl ?_
            refine LW.move rfl rfl ?_
            refine LW.on 87 rfl rfl ?_
            refine LW.call (bin_Err W B rp v true rch) Tryd.func32 rfl FactsLawCut.fname32 ⟨rfl, trivial⟩ (by repeat (first | exact Take.head _ _ | apply Take.tail)) rfl ?_
            rintro _ _ ⟨rfl, rfl⟩
            refine LW.on 87 rfl rfl ?_
            refine LW.neq false rfl rfl (rfl) rfl ?_
            refine LW.on 84 rfl rfl ?_
            refine LW.pickF rfl rfl rfl ?_
            refine LW.on 80 rfl rfl ?_
            refine LW.pickT rfl rfl rfl ?_
            refine LW.pickF rfl rfl rfl ?_
            refine LW.nil ?_
            refine NW.then_ ?_
            refine CW.cond_false rfl ?_
            refine CW.skip ?_
            refine NW.block ?_
            refine NW.then_ ?_
            refine CW.region ?_
            refine LW.add ((i + 1 : Int)) rfl rfl (by first | rfl | exact wr64 (by omega) (by omega) (by omega)) rfl ?_
            refine LW.move rfl rfl ?_
            refine LW.nil ?_
            refine NW.meet ((i + 1, v, true)) ?j2 ?e2 ?h2
            case j2 => exact ⟨⟨hin, .inr ⟨by show cut < reach la (i + 1); omega, rfl⟩⟩, by dsimp only; omega⟩
            case e2 => repeat (first | exact Env.Le.nil _ | refine Env.Le.cons rfl ?_)
            case h2 => repeat (first | exact Sub.heap_nil _ | exact Sub.refl _ | refine Sub.heap_cons (by repeat (first | exact Take.head _ _ | apply Take.tail)) ?_)
          · refine LW.call (bin_RInt_bad W B rp v rch) Tryd.func31 rfl FactsLawCut.fname31 ⟨rfl, trivial⟩ (by repeat (first | exact Take.head _ _ | apply Take.tail)) rfl ?_
            rintro _ _ ⟨rfl, rfl⟩
            refine LW.assign rfl rfl ?_
            refine LW.nil ?_
            refine NW.then_ ?_
            refine CW.seq ?_
            refine CW.region ?_
            refine LW.move rfl rfl ?_
            refine LW.move rfl rfl ?_
            refine LW.leq false rfl rfl (decide_eq_false (by omega)) rfl ?_
            refine LW.move rfl rfl ?_
            refine LW.off 67 rfl rfl rfl rfl ?_
            refine LW.off 67 rfl rfl rfl rfl ?_
            refine LW.off 67 rfl rfl rfl rfl ?_
            refine LW.off 67 rfl rfl rfl rfl ?_
            refine LW.off 67 rfl rfl rfl rfl ?_
            refine LW.off 67 rfl rfl rfl rfl ?_
            refine LW.off 67 rfl rfl rfl rfl ?_
            refine LW.offU 74 rfl rfl rfl ?_
            refine LW.offU 74 rfl rfl rfl ?_
            refine LW.offU 74 rfl rfl rfl ?_
            refine LW.off 67 rfl rfl rfl rfl ?_
            refine LW.pickF rfl rfl rfl ?_
            refine LW.move rfl rfl ?_
            refine LW.on 80 rfl rfl ?_
            refine LW.move rfl rfl ?_
            refine LW.on 80 rfl rfl ?_
            refine LW.move rfl rfl ?_
            refine LW.on 80 rfl rfl ?_
            refine LW.gtr true rfl rfl ((by exact decide_eq_true (by show ((reach la (i + 1) : Int) > (bt.length : Int)); omega))) rfl ?_
            refine LW.on 80 rfl rfl ?_
            refine LW.move rfl rfl ?_
            refine LW.on 84 rfl rfl ?_
            refine LW.move rfl rfl ?_
            refine LW.on 84 rfl rfl ?_
            refine LW.neq false rfl rfl (rfl) rfl ?_
            refine LW.on 84 rfl rfl ?_
            refine LW.move rfl rfl ?_
            refine LW.on 87 rfl rfl ?_
            refine LW.move rfl rfl ?_
            refine LW.on 87 rfl rfl ?_
            refine LW.call (bin_Err W B rp v true rch) Tryd.func32 rfl FactsLawCut.fname32 ⟨rfl, trivial⟩ (by repeat (first | exact Take.head _ _ | apply Take.tail)) rfl ?_
            rintro _ _ ⟨rfl, rfl⟩
            refine LW.on 87 rfl rfl ?_
            refine LW.neq false rfl rfl (rfl) rfl ?_
            refine LW.on 84 rfl rfl ?_
            refine LW.pickF rfl rfl rfl ?_
            refine LW.on 80 rfl rfl ?_
            refine LW.pickT rfl rfl rfl ?_
            refine LW.pickF rfl rfl rfl ?_
            refine LW.nil ?_
            refine NW.then_ ?_
            refine CW.cond_false rfl ?_
            refine CW.skip ?_
            refine NW.block ?_
            refine NW.then_ ?_
            refine CW.region ?_
            refine LW.add ((i + 1 : Int)) rfl rfl (by first | rfl | exact wr64 (by omega) (by omega) (by omega)) rfl ?_
            refine LW.move rfl rfl ?_
            refine LW.nil ?_
            refine NW.meet ((i + 1, v, true)) ?j3 ?e3 ?h3
            case j3 => exact ⟨⟨hin, .inr ⟨by show cut < reach la (i + 1); omega, rfl⟩⟩, by dsimp only; omega⟩
            case e3 => repeat (first | exact Env.Le.nil _ | refine Env.Le.cons rfl ?_)
            case h3 => repeat (first | exact Sub.heap_nil _ | exact Sub.refl _ | refine Sub.heap_cons (by repeat (first | exact Take.head _ _ | apply Take.tail)) ?_)
      · have hin : i = la.length := by have := of_decide_eq_false hc52; omega
        subst hin
        have hrl : reach la la.length = (encs la).length := by rw [reach, List.take_length]
        obtain ⟨hlt, rfl⟩ : cut < reach la la.length ∧ bad = true := by
          rcases hst with ⟨h, _⟩ | h
          · omega
          · exact h
        refine CW.exit ?_
        refine NW.then_exit ?_
        refine NW.then_exit ?_
        refine NW.block_exit ?_
        refine NW.then_ ?_
        refine CW.seq ?_
        refine CW.region ?_
        refine LW.move rfl rfl ?_
        refine LW.call (bin_EndBad W B rp v rch) Tryd.func34 rfl FactsLawCut.fname34 ⟨rfl, trivial⟩ (by repeat (first | exact Take.head _ _ | apply Take.tail)) rfl ?_
        rintro _ _ ⟨rfl, rfl⟩
        refine LW.eql (true) rfl rfl (rfl) rfl ?_
        refine LW.assign rfl rfl ?_
        refine LW.nil ?_
        refine NW.then_ ?_
        refine CW.ret ?_
        refine NW.ret1 rfl rfl ⟨_, ⟨rfl, rfl⟩, ?_⟩
        exact Sub.nil _
end
end Go.Proofs.YtmgpldgldgdenaaDoor
