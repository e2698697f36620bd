/-
  SlotLong, walked.
-/
import Derived.Test.YtpnhonhjheahhaaDoorHelp5
namespace Go.Proofs.YtpnhonhjheahhaaDoor
open Go.RowKit
namespace FactsLawSLong
theorem fname21 : (Tryd.f21.name == "runtime.NumGoroutine") = false := by kernel_rfl
theorem fname23 : (Tryd.f23.name == "runtime.NumGoroutine") = false := by kernel_rfl
theorem fname29 : (Tryd.f29.name == "runtime.NumGoroutine") = false := by kernel_rfl
theorem fname32 : (Tryd.f32.name == "runtime.NumGoroutine") = false := by kernel_rfl
theorem fname33 : (Tryd.f33.name == "runtime.NumGoroutine") = false := by kernel_rfl
theorem fname35 : (Tryd.f35.name == "runtime.NumGoroutine") = false := by kernel_rfl
theorem fname38 : (Tryd.f38.name == "runtime.NumGoroutine") = false := by kernel_rfl
theorem info2 : (Tryd.prog.info? 2).map (fun i => (i.zero, i.size, i.bytes)) = some (some (.int .i64 0), 1, 8) := by kernel_rfl
theorem ixs47 : (Tryd.prog.info? 2).map (·.size) = some 1 := by kernel_rfl
theorem one2 : oneB Tryd.prog 2 = true := by kernel_rfl
end FactsLawSLong
/-- The numbers that round i sets, j of them. -/
def wasOf (ns : List Int) (i j : Nat) : List Int := (List.range j).map fun k => ns.getD ((i + k) % ns.length) 0
theorem wasOf_len (ns : List Int) (i j : Nat) : (wasOf ns i j).length = j := by simp [wasOf]
theorem wasOf_succ (ns : List Int) (i j : Nat) : wasOf ns i (j + 1) = wasOf ns i j ++ [ns.getD ((i + j) % ns.length) 0] := by simp [wasOf, List.range_succ]
theorem wasOf_wf {ns : List Int} (h : ∀ n ∈ ns, I64 n) (i j : Nat) : ∀ n ∈ wasOf ns i j, I64 n := by
  intro n hn
  obtain ⟨k, _, rfl⟩ := List.mem_map.1 hn
  simp only [List.getD]
  cases hx : ns[(i + k) % ns.length]? with
  | none => exact ⟨by decide, by decide⟩
  | some x => exact h x (List.mem_of_getElem? hx)
section
variable (W : World) (B : Nat)
set_option maxHeartbeats 4000000 in
theorem law_SlotLong (h0 : 0 < B) (hg : W.cell? ⟨0, 0, none⟩ = some (rty 110)) (n : Int) (A : Option Addr) (cp : Nat) (ns : List Int) (hA : Src W B [] A (ns.map i64v)) (hns : ∀ n ∈ ns, I64 n) (hlen : ns.length ≤ 9223372036854775807) (A2 : Option Addr) (cp2 : Nat) (keep : List Bool) (hsrc : Src W B [] A2 (keep.map .bool)) :
    Spec Tryd.prog W B 6 [.int .i64 n, .slice A ns.length cp, .slice A2 keep.length cp2] [] (fun v post => v = .bool true ∧ post = []) := by
  obtain ⟨m, hm, hm60, hx1, hx2⟩ := mod_pos n 60 (by decide) (by decide)
  have hr0 := Rest.zero (n := 64) (by decide) (by decide)
  have hs0 := zero_slot 64 (by decide)
  refine Spec.enter ([]) Tryd.func6 rfl Tryd.ntmps6 rfl (by first | rfl | simp) (fun w0 => ?_)
  refine CW.seq ?_
  refine CW.region ?_
  refine LW.assign rfl rfl ?_
  refine LW.nil ?_
  refine NW.then_ ?_
  refine CW.seq ?_
  refine CW.region ?_
  refine LW.call (law_begun4 W B h0 hg) Tryd.func21 rfl FactsLawSLong.fname21 trivial (Take.none _) rfl ?_
  rintro _ _ ⟨rfl, rfl⟩
  refine LW.assign rfl rfl ?_
  refine LW.nil ?_
  refine NW.then_ ?_
  refine CW.seq ?_
  refine CW.seq ?_
  refine CW.region ?_
  refine LW.move rfl rfl ?_
  refine LW.not (false) rfl (rfl) rfl ?_
  refine LW.nil ?_
  refine NW.then_ ?_
  refine CW.cond_false rfl ?_
  refine CW.skip ?_
  refine NW.then_ ?_
  refine CW.seq ?_
  refine CW.region ?_
  refine LW.move rfl rfl ?_
  refine LW.rem (n.tmod 60) rfl rfl (by decide) (rfl) rfl ?_
  refine LW.add (n.tmod 60 + 60) rfl rfl (by first | rfl | exact wr64 (by omega) (by omega) (by omega)) rfl ?_
  refine LW.rem ((m : Int)) rfl rfl (by decide) (hm) rfl ?_
  refine LW.assign rfl rfl ?_
  refine LW.nil ?_
  refine NW.then_ ?_
  refine CW.seq ?_
  refine CW.region ?_
  refine LW.call (dev_New W B 64 (by decide) (by decide)) Tryd.func23 rfl FactsLawSLong.fname23 ⟨rfl, trivial⟩ (Take.none _) rfl ?_
  rintro _ _ ⟨p, bn, bw, bl, rfl, rfl⟩
  refine LW.assign rfl rfl ?_
  refine LW.nil ?_
  refine NW.then_ ?_
  refine CW.seq ?_
  generalize DevS.zero 64 = d0 at hr0 hs0 ⊢
  refine CW.region ?_
  refine LW.move rfl rfl ?_
  refine LW.call (slot_Make_ok W B p bn bw bl 64 d0 hr0.ok hr0.up (hold_slot hr0.flat (by decide) hs0) (by decide) [] (by simp) (by decide) [] none 0 Src.nil) Tryd.func32 rfl FactsLawSLong.fname32 ⟨rfl, rfl, trivial⟩ (Take.both (Take.none _) (by repeat (first | exact Take.head _ _ | apply Take.tail))) rfl ?_
  rintro _ _ ⟨q, d1, rfl, hr1, hs1, _, rfl⟩; refine LW.split2 (LW.split2p ?_)
  refine LW.move rfl rfl ?_
  refine LW.extract rfl rfl rfl ?_
  refine LW.extract rfl rfl rfl ?_
  refine LW.assign rfl rfl ?_
  refine LW.assign rfl rfl ?_
  refine LW.nil ?_
  refine NW.then_ ?_
  refine CW.seq ?_
  refine CW.seq ?_
  refine CW.region ?_
  refine LW.move rfl rfl ?_
  refine LW.neq false rfl rfl (bne_eq_false_iff_eq.2 (by omega)) rfl ?_
  refine LW.nil ?_
  refine NW.then_ ?_
  refine CW.cond_false rfl ?_
  refine CW.skip ?_
  refine NW.then_ ?_
  refine CW.seq ?_
  refine CW.region ?_
  refine LW.assign rfl rfl ?_
  refine LW.nil ?_
  refine NW.then_ ?_
  refine CW.seq ?_
  refine CW.seq ?_
  refine CW.region ?_
  refine LW.assign rfl rfl ?_
  refine LW.nil ?_
  refine NW.then_ ?_
  refine CW.block ?_
  refine CW.loop (fun st : Nat × Int × List Int × DevS × Value × List Row => [(12, .int .i64 (st.1 : Int)), (11, st.2.2.2.2.1), (9, .pointer (some ⟨q, 0, none⟩)), (8, .pointer (some ⟨p, 0, none⟩)), (0, .int .i64 (m : Int)), (1, .slice A ns.length cp), (2, .slice A2 keep.length cp2)]) (fun st => [st.2.2.2.2.2, [slC q p st.2.1 false], devC p bn bw bl 64 st.2.2.2.1]) (fun st => st.1 ≤ m ∧ st.2.1 = 1 + (st.1 : Int) ∧ Rest 64 st.2.2.2.1 ∧ SlotAt st.2.2.2.1.N st.2.1 st.2.2.1 ∧ st.2.2.1.length ≤ 4 ∧ OwnS 2 1 st.2.2.2.2.1 st.2.2.1.length (st.2.2.1.map i64v) st.2.2.2.2.2) (fun st => m - st.1) (0, 0 + 1, [], d1, .slice none 0 0, []) ?st11_j ?st11_e ?st11_h ?st11_r
  case st11_j => exact ⟨Nat.zero_le _, rfl, hr1, hs1, Nat.zero_le _, OwnS.nil⟩
  case st11_e => repeat (first | exact Env.Le.nil _ | refine Env.Le.cons rfl ?_)
  case st11_h => repeat (first | exact Sub.heap_nil _ | exact Sub.refl _ | refine Sub.heap_cons (Take.none _) ?_ | refine Sub.heap_cons (by repeat (first | exact Take.head _ _ | apply Take.tail)) ?_)
  case st11_r =>
    rintro ⟨i, sr, was, d, v, ch⟩ ⟨hi, hsr, hr, hs, h4, ho⟩; dsimp only at hi hsr hr hs h4 ho
    try dsimp only
    refine CW.seq ?_
    refine CW.seq ?_
    refine CW.region ?_
    refine LW.move rfl rfl ?_
    refine LW.move rfl rfl ?_
    refine LW.lss (decide ((i : Int) < (m : Int))) rfl rfl (rfl) rfl ?_
    refine LW.nil ?_
    refine NW.then_ ?_
    refine CW.cond rfl (fun hc34 => ?_) (fun hc34 => ?_)
    · replace hc34 := of_decide_eq_true hc34
      try dsimp only at hc34
      have him : i < m := by omega
      refine CW.skip ?_
      refine NW.then_ ?_
      refine CW.seq ?_
      refine CW.block ?_
      refine CW.seq ?_
      refine CW.region ?_
      refine LW.assign rfl rfl ?_
      refine LW.nil ?_
      refine NW.then_ ?_
      refine CW.seq ?_
      refine CW.seq ?_
      refine CW.region ?_
      refine LW.assign rfl rfl ?_
      refine LW.nil ?_
      refine NW.then_ ?_
      refine CW.block ?_
      refine CW.loop (fun st : Nat × Value × List Row => [(13, .int .i64 (st.1 : Int)), (11, st.2.1), (12, .int .i64 (i : Int)), (9, .pointer (some ⟨q, 0, none⟩)), (8, .pointer (some ⟨p, 0, none⟩)), (0, .int .i64 (m : Int)), (1, .slice A ns.length cp), (2, .slice A2 keep.length cp2)]) (fun st => [st.2.2, [slC q p sr false], devC p bn bw bl 64 d]) (fun st => st.1 ≤ i % 5 ∧ st.1 ≤ ns.length ∧ OwnS 2 1 st.2.1 st.1 ((wasOf ns i st.1).map i64v) st.2.2) (fun st => i % 5 - st.1) (0, .slice none 0 0, []) ?st15_j ?st15_e ?st15_h ?st15_r
      case st15_j => exact ⟨Nat.zero_le _, Nat.zero_le _, OwnS.nil⟩
      case st15_e => repeat (first | exact Env.Le.nil _ | refine Env.Le.cons rfl ?_)
      case st15_h => repeat (first | exact Sub.heap_nil _ | exact Sub.refl _ | refine Sub.heap_cons (Take.none _) ?_ | refine Sub.heap_cons (by repeat (first | exact Take.head _ _ | apply Take.tail)) ?_)
      case st15_r =>
        rintro ⟨j, v, ch⟩ ⟨hj, hjn, ho⟩; dsimp only at hj hjn ho
        try dsimp only
        refine CW.seq ?_
        refine CW.seq ?_
        refine CW.region ?_
        refine LW.move rfl rfl ?_
        refine LW.move rfl rfl ?_
        refine LW.rem (((i % 5 : Nat) : Int)) rfl rfl (by decide) (tmod_nat i 5) rfl ?_
        by_cases hj5 : j < i % 5
        · refine LW.lss true rfl rfl (decide_eq_true (by omega)) rfl ?_
          refine LW.move rfl rfl ?_
          refine LW.on 41 rfl rfl ?_
          refine LW.move rfl rfl ?_
          refine LW.on 41 rfl rfl ?_
          refine LW.move rfl rfl ?_
          refine LW.on 41 rfl rfl ?_
          refine LW.lenSlice rfl Tryd.underlying47 rfl ?_
          by_cases hjl : j < ns.length
          · refine LW.on 41 rfl rfl ?_
            refine LW.lss true rfl rfl (decide_eq_true (by omega)) rfl ?_
            refine LW.pickT rfl rfl rfl ?_
            refine LW.nil ?_
            refine NW.then_ ?_
            refine CW.cond_true rfl ?_
            refine CW.skip ?_
            refine NW.then_ ?_
            refine CW.seq ?_
            refine CW.block ?_
            obtain ⟨a1, rfl⟩ : ∃ a, A = some a := hA.some (by rw [List.length_map]; omega)
            have hlt := Nat.mod_lt (i + j) (show 0 < ns.length by omega)
            have hgi : (ns.map i64v)[(i + j) % ns.length]? = some (.int .i64 (ns.getD ((i + j) % ns.length) 0)) := by simp [List.getD, List.getElem?_eq_getElem hlt, i64v]
            have hsu := wasOf_succ ns i j
            refine CW.region ?_
            refine LW.move rfl rfl ?_
            refine LW.move rfl rfl ?_
            refine LW.move rfl rfl ?_
            refine LW.move rfl rfl ?_
            refine LW.add ((i + j : Int)) rfl rfl (by first | rfl | exact wr64 (by omega) (by omega) (by omega)) rfl ?_
            refine LW.move rfl rfl ?_
            refine LW.lenSlice rfl Tryd.underlying47 rfl ?_
            refine LW.rem ((((i + j) % ns.length : Nat) : Int)) rfl rfl ((by omega)) (tmod_nat (i + j) ns.length) rfl ?_
            refine LW.indexAt rfl rfl Tryd.underlying47 FactsLawSLong.ixs47 (by omega) (by omega) rfl ?_
            refine LW.loadRd (v := .int .i64 (ns.getD ((i + j) % ns.length) 0)) rfl (hA.rd (Take.none _)) (by rw [Int.toNat_natCast, Nat.mul_one]; exact hgi) FactsLawSLong.one2 rfl ?_
            refine LW.buildSlice (vs := [_]) ⟨rfl, trivial⟩ rfl (by intro v hv; simp at hv; subst hv; rfl) Tryd.underlying47 FactsLawSLong.info2 rfl (by decide) (by decide) rfl ?_
            intro bs59
            refine LW.append ([.int .i64 (ns.getD ((i + j) % ns.length) 0)]) rfl rfl Tryd.underlying47 Tryd.underlying47 (.inr ⟨_, rfl⟩) FactsLawSLong.info2 rfl (ho) (by repeat (first | exact Take.head _ _ | apply Take.tail)) (fun _ => lenOf_slice _ _ _ _) (first_rd (RdAt.row (by repeat (first | exact Take.head _ _ | apply Take.tail)) (fun j v hj => by simpa using hj)) rfl (fun h => (by cases h))) (rfl) (by intro u hu; simp at hu; subst hu; rfl) (by omega) (by omega) rfl ?_
            intro v' ch' ho'
            refine LW.assign rfl rfl ?_
            refine LW.nil ?_
            refine NW.block ?_
            refine NW.then_ ?_
            refine CW.region ?_
            refine LW.move rfl rfl ?_
            refine LW.add ((j + 1 : Int)) rfl rfl (by first | rfl | exact wr64 (by omega) (by omega) (by omega)) rfl ?_
            refine LW.assign rfl rfl ?_
            refine LW.nil ?_
            refine NW.meet ((j + 1, v', ch')) ?j1 ?e1 ?h1
            case j1 => exact ⟨⟨by dsimp only; omega, by dsimp only; omega, by rw [hsu, List.map_append]; exact ho'⟩, by dsimp only; omega⟩
            case e1 => repeat (first | exact Env.Le.nil _ | refine Env.Le.cons rfl ?_)
            case h1 => repeat (first | exact Sub.heap_nil _ | exact Sub.refl _ | refine Sub.heap_cons (Take.none _) ?_ | refine Sub.heap_cons (by repeat (first | exact Take.head _ _ | apply Take.tail)) ?_)
          · refine LW.on 41 rfl rfl ?_
            refine LW.lss false rfl rfl (decide_eq_false (by omega)) rfl ?_
            refine LW.pickT rfl rfl rfl ?_
            refine LW.nil ?_
            refine NW.then_ ?_
            refine CW.cond_false rfl ?_
            refine CW.exit ?_
            refine NW.then_exit ?_
            refine NW.then_exit ?_
            refine NW.block_exit ?_
            refine NW.then_ ?_
            refine CW.seq ?_
            have hwl := wasOf_len ns i j
            have hww := wasOf_wf hns i j
            generalize wasOf ns i j = was' at ho hwl hww
            subst hwl
            obtain ⟨Aw, cpw, rfl, hAw, hcw⟩ := OwnS.val ho
            refine CW.region ?_
            refine LW.move rfl rfl ?_
            refine LW.move rfl rfl ?_
            refine LW.call (slot_Set_ok W B q p bn bw bl 64 d hr.ok hr.up (hold_slot hr.flat (by decide) hs) (by omega) was' hww (by omega) ch Aw cpw ho.src) Tryd.func35 rfl FactsLawSLong.fname35 ⟨rfl, rfl, trivial⟩ (Take.both (by repeat (first | exact Take.head _ _ | apply Take.tail)) (Take.both (by repeat (first | exact Take.head _ _ | apply Take.tail)) (by repeat (first | exact Take.head _ _ | apply Take.tail)))) rfl ?_
            rintro _ _ ⟨rfl, d2, hr2, hs2, _, rfl⟩; refine LW.split2 (LW.split2p ?_)
            refine LW.neq false rfl rfl (bne_eq_false_iff_eq.2 (by omega)) rfl ?_
            refine LW.nil ?_
            refine NW.then_ ?_
            refine CW.cond_false rfl ?_
            refine CW.skip ?_
            refine NW.block ?_
            refine NW.then_ ?_
            refine CW.region ?_
            refine LW.move rfl rfl ?_
            refine LW.add ((i + 1 : Int)) rfl rfl (by first | rfl | exact wr64 (by omega) (by omega) (by omega)) rfl ?_
            refine LW.assign rfl rfl ?_
            refine LW.nil ?_
            refine NW.meet ((i + 1, sr + 1, was', d2, .slice Aw was'.length cpw, ch)) ?j2 ?e2 ?h2
            case j2 => exact ⟨⟨by dsimp only; omega, by dsimp only; omega, hr2, hs2, by dsimp only; omega, ho⟩, by dsimp only; omega⟩
            case e2 => repeat (first | exact Env.Le.nil _ | refine Env.Le.cons rfl ?_)
            case h2 => repeat (first | exact Sub.heap_nil _ | exact Sub.refl _ | refine Sub.heap_cons (Take.none _) ?_ | refine Sub.heap_cons (by repeat (first | exact Take.head _ _ | apply Take.tail)) ?_)
        · refine LW.lss false rfl rfl (decide_eq_false (by omega)) rfl ?_
          refine LW.move rfl rfl ?_
          refine LW.off 41 rfl rfl rfl rfl ?_
          refine LW.off 41 rfl rfl rfl rfl ?_
          refine LW.off 41 rfl rfl rfl rfl ?_
          refine LW.off 41 rfl rfl rfl rfl ?_
          refine LW.pickF rfl rfl rfl ?_
          refine LW.nil ?_
          refine NW.then_ ?_
          refine CW.cond_false rfl ?_
          refine CW.exit ?_
          refine NW.then_exit ?_
          refine NW.then_exit ?_
          refine NW.block_exit ?_
          refine NW.then_ ?_
          refine CW.seq ?_
          have hwl := wasOf_len ns i j
          have hww := wasOf_wf hns i j
          generalize wasOf ns i j = was' at ho hwl hww
          subst hwl
          obtain ⟨Aw, cpw, rfl, hAw, hcw⟩ := OwnS.val ho
          refine CW.region ?_
          refine LW.move rfl rfl ?_
          refine LW.move rfl rfl ?_
          refine LW.call (slot_Set_ok W B q p bn bw bl 64 d hr.ok hr.up (hold_slot hr.flat (by decide) hs) (by omega) was' hww (by omega) ch Aw cpw ho.src) Tryd.func35 rfl FactsLawSLong.fname35 ⟨rfl, rfl, trivial⟩ (Take.both (by repeat (first | exact Take.head _ _ | apply Take.tail)) (Take.both (by repeat (first | exact Take.head _ _ | apply Take.tail)) (by repeat (first | exact Take.head _ _ | apply Take.tail)))) rfl ?_
          rintro _ _ ⟨rfl, d2, hr2, hs2, _, rfl⟩; refine LW.split2 (LW.split2p ?_)
          refine LW.neq false rfl rfl (bne_eq_false_iff_eq.2 (by omega)) rfl ?_
          refine LW.nil ?_
          refine NW.then_ ?_
          refine CW.cond_false rfl ?_
          refine CW.skip ?_
          refine NW.block ?_
          refine NW.then_ ?_
          refine CW.region ?_
          refine LW.move rfl rfl ?_
          refine LW.add ((i + 1 : Int)) rfl rfl (by first | rfl | exact wr64 (by omega) (by omega) (by omega)) rfl ?_
          refine LW.assign rfl rfl ?_
          refine LW.nil ?_
          refine NW.meet ((i + 1, sr + 1, was', d2, .slice Aw was'.length cpw, ch)) ?j3 ?e3 ?h3
          case j3 => exact ⟨⟨by dsimp only; omega, by dsimp only; omega, hr2, hs2, by dsimp only; omega, ho⟩, by dsimp only; omega⟩
          case e3 => repeat (first | exact Env.Le.nil _ | refine Env.Le.cons rfl ?_)
          case h3 => repeat (first | exact Sub.heap_nil _ | exact Sub.refl _ | refine Sub.heap_cons (Take.none _) ?_ | refine Sub.heap_cons (by repeat (first | exact Take.head _ _ | apply Take.tail)) ?_)
    · replace hc34 := of_decide_eq_false hc34
      try dsimp only at hc34
      refine CW.exit ?_
      refine NW.then_exit ?_
      refine NW.then_exit ?_
      refine NW.block_exit ?_
      refine NW.then_ ?_
      refine CW.seq ?_
      refine CW.region ?_
      refine LW.move rfl rfl ?_
      refine LW.move rfl rfl ?_
      refine LW.call (dev_Crash W B p bn bw bl 64 d hr.ok [] A2 cp2 keep hsrc) Tryd.func29 rfl FactsLawSLong.fname29 ⟨rfl, rfl, trivial⟩ (Take.both (Take.none _) (by repeat (first | exact Take.head _ _ | apply Take.tail))) rfl ?_
      rintro _ _ ⟨cp', cn, cw, cl, rfl, rfl⟩; refine LW.split2 (LW.split2p ?_)
      refine LW.call (slot_Open_ok W B cp' cn cw cl 64 (d.crash 64 keep) (hr.ok.crash keep) (crash_slot hr.ok hr.flat hs keep) (by omega)) Tryd.func33 rfl FactsLawSLong.fname33 ⟨rfl, trivial⟩ (by repeat (first | exact Take.head _ _ | apply Take.tail)) rfl ?_
      rintro _ _ ⟨q2, v2, ch2, rfl, ho2, rfl⟩; obtain ⟨A3, cp3, rfl, hA3, hc3⟩ := OwnS.val ho2; refine LW.split2 (LW.split2p ?_)
      refine LW.move rfl rfl ?_
      refine LW.extract rfl rfl rfl ?_
      refine LW.extract rfl rfl rfl ?_
      refine LW.extract rfl rfl rfl ?_
      refine LW.assign rfl rfl ?_
      refine LW.assign rfl rfl ?_
      refine LW.assign rfl rfl ?_
      refine LW.nil ?_
      refine NW.then_ ?_
      refine CW.seq ?_
      obtain ⟨Aw, cpw, rfl, hAw, hcw⟩ := OwnS.val ho
      have hrc := Rest.crash hr.ok keep
      have hsc := crash_slot hr.ok hr.flat hs keep
      generalize d.crash 64 keep = dc at hrc hsc ⊢
      refine CW.region ?_
      refine LW.move rfl rfl ?_
      refine LW.eql true rfl rfl (beq_iff_eq.2 (by omega)) rfl ?_
      refine LW.move rfl rfl ?_
      refine LW.on 75 rfl rfl ?_
      refine LW.move rfl rfl ?_
      refine LW.on 75 rfl rfl ?_
      refine LW.move rfl rfl ?_
      refine LW.on 75 rfl rfl ?_
      refine LW.call (law_ints_eq W B (ch2 ++ ch) A3 Aw cp3 cpw was.length was rfl (Src.left W B ho2.src) (Src.right W B ho.src) (by omega)) Tryd.func38 rfl FactsLawSLong.fname38 ⟨rfl, rfl, trivial⟩ (Take.both (by repeat (first | exact Take.head _ _ | apply Take.tail)) (by repeat (first | exact Take.head _ _ | apply Take.tail))) rfl ?_
      rintro _ _ ⟨rfl, rfl⟩; refine LW.split2 ?_
      refine LW.pickT rfl rfl rfl ?_
      refine LW.move rfl rfl ?_
      refine LW.on 80 rfl rfl ?_
      refine LW.move rfl rfl ?_
      refine LW.on 80 rfl rfl ?_
      refine LW.buildSlice (vs := [_]) ⟨rfl, trivial⟩ rfl (by intro v hv; simp at hv; subst hv; rfl) Tryd.underlying47 FactsLawSLong.info2 rfl (by decide) (by decide) rfl ?_
      intro bs82
      refine LW.on 80 rfl rfl ?_
      refine LW.call (slot_Set_ok W B q2 cp' cn cw cl 64 dc hrc.ok hrc.up (hold_slot hrc.flat (by decide) hsc) (by omega) [5] (by intro n hn; simp at hn; subst hn; exact ⟨by decide, by decide⟩) (by decide) [cr bs82 2 [.int .i64 5]] (some ⟨bs82, 0, none⟩) 1 (Src.row (fun j v hj => by rw [Nat.zero_add]; exact hj))) Tryd.func35 rfl FactsLawSLong.fname35 ⟨rfl, rfl, trivial⟩ (Take.both (by repeat (first | exact Take.head _ _ | apply Take.tail)) (Take.both (by repeat (first | exact Take.head _ _ | apply Take.tail)) (by repeat (first | exact Take.head _ _ | apply Take.tail)))) rfl ?_
      rintro _ _ ⟨rfl, d5, hr5, hs5, _, rfl⟩; refine LW.split2 (LW.split2p ?_)
      refine LW.on 80 rfl rfl ?_
      refine LW.eql true rfl rfl (beq_iff_eq.2 (by omega)) rfl ?_
      refine LW.pickT rfl rfl rfl ?_
      refine LW.assign rfl rfl ?_
      refine LW.nil ?_
      refine NW.then_ ?_
      refine CW.ret ?_
      refine NW.ret1 rfl rfl ⟨_, ⟨rfl, rfl⟩, ?_⟩
      exact Sub.nil _
end
end Go.Proofs.YtpnhonhjheahhaaDoor
