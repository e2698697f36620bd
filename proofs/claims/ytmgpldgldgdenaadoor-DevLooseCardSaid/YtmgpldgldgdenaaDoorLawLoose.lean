/-
  DevLoose, walked.
-/
import Derived.Test.YtmgpldgldgdenaaDoorLooseB
import Derived.Test.YtmgpldgldgdenaaDoorBegun
import Derived.Test.YtmgpldgldgdenaaDoorOps2
import Derived.Test.YtmgpldgldgdenaaDoorUndef
import Derived.Test.YtmgpldgldgdenaaDoorOld
namespace Go.Proofs.YtmgpldgldgdenaaDoor
open Go.RowKit
namespace FactsLawLoose
theorem fname16 : (Tryd.f16.name == "runtime.NumGoroutine") = false := by kernel_rfl
theorem fname17 : (Tryd.f17.name == "runtime.NumGoroutine") = false := by kernel_rfl
theorem fname18 : (Tryd.f18.name == "runtime.NumGoroutine") = false := by kernel_rfl
theorem fname19 : (Tryd.f19.name == "runtime.NumGoroutine") = false := by kernel_rfl
theorem fname20 : (Tryd.f20.name == "runtime.NumGoroutine") = false := by kernel_rfl
theorem fname21 : (Tryd.f21.name == "runtime.NumGoroutine") = false := by kernel_rfl
theorem fname22 : (Tryd.f22.name == "runtime.NumGoroutine") = false := by kernel_rfl
theorem fname36 : (Tryd.f36.name == "runtime.NumGoroutine") = false := by kernel_rfl
theorem ixs22 : (Tryd.prog.info? 4).map (·.size) = some 1 := by kernel_rfl
theorem ixs33 : (Tryd.prog.info? 3).map (·.size) = some 1 := by kernel_rfl
theorem mixed : Tryd.prog.follows .mixedOrders = true := by kernel_rfl
theorem one3 : oneB Tryd.prog 3 = true := by kernel_rfl
theorem one4 : oneB Tryd.prog 4 = true := by kernel_rfl
theorem zero3 : (Tryd.prog.info? 3).bind (·.zero) = some (.int .i64 0) := by kernel_rfl
theorem zero5 : (Tryd.prog.info? 5).bind (·.zero) = some (.int .u8 0) := by kernel_rfl
end FactsLawLoose
section
variable (W : World) (B : Nat)
set_option maxHeartbeats 2000000 in
theorem law_DevLoose (h0 : 0 < B) (hg : W.cell? ⟨0, 0, none⟩ = some (rty 80)) (A : Option Addr) (cp : Nat) (at' : List Int) (hat : Src W B [] A (at'.map i64v)) (A2 : Option Addr) (cp2 : Nat) (keep : List Bool) (hsrc : Src W B [] A2 (keep.map .bool)) :
    Spec Tryd.prog W B 9 [.slice A at'.length cp, .slice A2 keep.length cp2] [] (fun v post => v = .bool true ∧ post = []) := by
  refine Spec.enter ([]) Tryd.func9 rfl Tryd.ntmps9 rfl (by first | rfl | simp) (fun w0 => ?_)
  refine CW.seq ?_
  refine CW.region ?_
  refine LW.assign rfl rfl ?_
  refine LW.nil ?_
  refine NW.then_ ?_
  refine CW.seq ?_
  refine CW.region ?_
  refine LW.call (law_begun W B h0 hg) Tryd.func16 rfl FactsLawLoose.fname16 trivial (Take.none _) rfl ?_
  rintro _ _ ⟨rfl, rfl⟩
  refine LW.assign rfl rfl ?_
  refine LW.nil ?_
  refine NW.then_ ?_
  refine CW.seq ?_
  refine CW.seq ?_
  refine CW.region ?_
  refine LW.move rfl rfl ?_
  refine LW.not (false) rfl (rfl) rfl ?_
  refine LW.nil ?_
  refine NW.then_ ?_
  refine CW.cond_false rfl ?_
  refine CW.skip ?_
  refine NW.then_ ?_
  refine CW.seq ?_
  refine CW.region ?_
  refine LW.call (dev_New W B 64 (by decide) (by decide)) Tryd.func17 rfl FactsLawLoose.fname17 ⟨rfl, trivial⟩ (Take.none _) rfl ?_
  rintro _ _ ⟨p, bn, bw, bl, rfl, rfl⟩
  refine LW.assign rfl rfl ?_
  refine LW.nil ?_
  refine NW.then_ ?_
  refine CW.seq ?_
  refine CW.region ?_
  refine LW.makeMap (.u8) (numM (fun _ => 0)) rfl ?_
  intro m1 ch1 om1
  refine LW.assign rfl rfl ?_
  refine LW.nil ?_
  refine NW.then_ ?_
  refine CW.seq ?_
  refine CW.seq ?_
  refine CW.region ?_
  refine LW.assign rfl rfl ?_
  refine LW.nil ?_
  refine NW.then_ ?_
  refine CW.block ?_
  refine CW.loop (fun st : Nat × DevS × List Int × (Int → UInt8) × List Row => [(8, .int .i64 (st.1 : Int)), (7, m1), (6, .pointer (some ⟨p, 0, none⟩)), (0, .slice A at'.length cp), (1, .slice A2 keep.length cp2)]) (fun st => [st.2.2.2.2, devC p bn bw bl 64 st.2.1]) (fun st => st.1 ≤ 66 ∧ Kept2 (fun _ => 0) m1 st.2.1 st.2.2.1 st.2.2.2.1 st.2.2.2.2) (fun st => 66 - st.1) (0, DevS.zero 64, [], (fun _ => 0), ch1) ?st7_j ?st7_e ?st7_h ?st7_r
  case st7_j => exact ⟨by omega, Kept2.start om1⟩
  case st7_e => repeat (first | exact Env.Le.nil _ | refine Env.Le.cons rfl ?_)
  case st7_h => repeat (first | exact Sub.heap_nil _ | exact Sub.refl _ | refine Sub.heap_cons (by repeat (first | exact Take.head _ _ | apply Take.tail)) ?_)
  case st7_r =>
    rintro ⟨i, s, ks, F, ch⟩ ⟨hi, hs⟩; dsimp only at hi hs
    refine CW.seq ?_
    refine CW.seq ?_
    refine CW.region ?_
    refine LW.move rfl rfl ?_
    refine LW.lss (decide ((i : Int) < 64)) rfl rfl (rfl) rfl ?_
    refine LW.nil ?_
    refine NW.then_ ?_
    refine CW.cond rfl (fun hc30 => ?_) (fun hc30 => ?_)
    · have hi64 : i < 64 := by have := of_decide_eq_true hc30; omega
      refine CW.skip ?_
      refine NW.then_ ?_
      refine CW.seq ?_
      refine CW.block ?_
      refine CW.seq ?_
      refine CW.region ?_
      refine LW.move rfl rfl ?_
      refine LW.move rfl rfl ?_
      refine LW.move rfl rfl ?_
      refine LW.add ((i + 1 : Int)) rfl rfl (by first | rfl | exact wr64 (by omega) (by omega) (by omega)) rfl ?_
      refine LW.convInt (((UInt8.ofNat (i + 1)).toNat : Int)) rfl Tryd.underlying3 Tryd.underlying5 ((by rw [wrap_u8, UInt8.toNat_ofNat', UInt8.toNat_ofNat']; omega)) rfl ?_
      refine LW.mapSet rfl rfl rfl (hs.own) (by repeat (first | exact Take.head _ _ | apply Take.tail)) Tryd.underlying59 Tryd.underlying3 ?_
      intro ch' ho'; rw [numM_set] at ho'
      refine LW.nil ?_
      refine NW.then_ ?_
      refine CW.seq ?_
      refine CW.region ?_
      refine LW.move rfl rfl ?_
      refine LW.move rfl rfl ?_
      refine LW.move rfl rfl ?_
      refine LW.add ((i + 1 : Int)) rfl rfl (by first | rfl | exact wr64 (by omega) (by omega) (by omega)) rfl ?_
      refine LW.convInt (((UInt8.ofNat (i + 1)).toNat : Int)) rfl Tryd.underlying3 Tryd.underlying5 ((by rw [wrap_u8, UInt8.toNat_ofNat', UInt8.toNat_ofNat']; omega)) rfl ?_
      refine LW.call (law_Bytes W B (UInt8.ofNat (i + 1))) Tryd.func18 rfl FactsLawLoose.fname18 ⟨rfl, trivial⟩ (Take.none _) rfl ?_
      rintro _ _ ⟨b1, rfl, rfl⟩
      refine LW.call (dev_Write_ok W B p bn bw bl 64 s hs.ok i hi64 hs.up [cr b1 5 ((bytes (UInt8.ofNat (i + 1))).map u8v)] (some ⟨b1, 0, none⟩) 64 (bytes (UInt8.ofNat (i + 1))) (bytes_len _) (Src.row (fun j v hj => by rw [Nat.zero_add]; exact hj))) Tryd.func19 rfl FactsLawLoose.fname19 ⟨rfl, rfl, rfl, trivial⟩ (Take.both (by repeat (first | exact Take.head _ _ | apply Take.tail)) (by repeat (first | exact Take.head _ _ | apply Take.tail))) rfl ?_
      rintro _ _ ⟨rfl, rfl⟩; refine LW.split2 ?_
      refine LW.neq false rfl rfl (rfl) rfl ?_
      refine LW.nil ?_
      refine NW.then_ ?_
      refine CW.cond_false rfl ?_
      refine CW.skip ?_
      refine NW.block ?_
      refine NW.then_ ?_
      refine CW.region ?_
      refine LW.move rfl rfl ?_
      refine LW.add ((i + 3 : Int)) rfl rfl (by first | rfl | exact wr64 (by omega) (by omega) (by omega)) rfl ?_
      refine LW.assign rfl rfl ?_
      refine LW.nil ?_
      refine NW.meet ((i + 3, (s.put i (bytes (UInt8.ofNat (i + 1)))).burn, (if (i : Int) ∈ ks then ks else ks ++ [(i : Int)]), (fun q => if q = (i : Int) then UInt8.ofNat (i + 1) else F q), ch')) ?j1 ?e1 ?h1
      case j1 => exact ⟨⟨by dsimp only; omega, hs.put hi64 _ (bytes_len _) ho'⟩, by dsimp only; omega⟩
      case e1 => repeat (first | exact Env.Le.nil _ | refine Env.Le.cons rfl ?_)
      case h1 => repeat (first | exact Sub.heap_nil _ | exact Sub.refl _ | refine Sub.heap_cons (by repeat (first | exact Take.head _ _ | apply Take.tail)) ?_)
    · refine CW.exit ?_
      refine NW.then_exit ?_
      refine NW.then_exit ?_
      refine NW.block_exit ?_
      refine NW.then_ ?_
      refine CW.seq ?_
      refine CW.seq ?_
      refine CW.region ?_
      refine LW.move rfl rfl ?_
      refine LW.call (dev_Flush W B p bn bw bl 64 s hs.ok) Tryd.func36 rfl FactsLawLoose.fname36 ⟨rfl, trivial⟩ (by repeat (first | exact Take.head _ _ | apply Take.tail)) rfl ?_
      rintro _ _ ⟨rfl, rfl⟩; rw [show s.flushE = 0 from by simp [DevS.flushE, hs.up]]
      refine LW.neq false rfl rfl (rfl) rfl ?_
      refine LW.move rfl rfl ?_
      refine LW.on 49 rfl rfl ?_
      refine LW.move rfl rfl ?_
      refine LW.on 49 rfl rfl ?_
      refine LW.call (dev_Loose W B p bn bw bl 64 (s.flush 64) hs.ok.flush) Tryd.func22 rfl FactsLawLoose.fname22 ⟨rfl, trivial⟩ (by repeat (first | exact Take.head _ _ | apply Take.tail)) rfl ?_
      rw [flush_loose hs.up hs.cold]; rintro v _ ⟨chx, ho, rfl⟩; obtain ⟨A3, cp3, rfl, _, _⟩ := ho.val; refine LW.split2 ?_
      refine LW.on 49 rfl rfl ?_
      refine LW.lenSlice rfl Tryd.underlying33 rfl ?_
      refine LW.on 49 rfl rfl ?_
      refine LW.neq false rfl rfl (rfl) rfl ?_
      refine LW.pickF rfl rfl rfl ?_
      refine LW.nil ?_
      refine NW.then_ ?_
      refine CW.cond_false rfl ?_
      refine CW.skip ?_
      refine NW.then_ ?_
      refine CW.seq ?_
      refine CW.region ?_
      refine LW.makeMap (.u8) (numM (fun _ => 0)) rfl ?_
      intro m2 ch2 om2
      refine LW.assign rfl rfl ?_
      refine LW.nil ?_
      refine NW.then_ ?_
      refine CW.cut (fun st : DevS × List Int × (Int → UInt8) × List Row => [(9, m2), (7, m1), (6, .pointer (some ⟨p, 0, none⟩)), (1, .slice A2 keep.length cp2)]) (fun st => [st.2.2.2, devC p bn bw bl 64 st.1, ch]) (fun st => Kept2 (gotM ks F (fun _ => 0)) m2 st.1 st.2.1 st.2.2.1 st.2.2.2) ?cut22_1 ?cut22_2
      case cut22_1 =>
        refine CW.seq ?_
        have hs2 := hs.flush om2
        generalize s.flush 64 = s2 at hs2 ⊢
        refine CW.region ?_
        refine LW.assign rfl rfl ?_
        refine LW.nil ?_
        refine NW.then_ ?_
        refine CW.block ?_
        refine CW.loop (fun st : Nat × DevS × List Int × (Int → UInt8) × List Row => [(10, .int .i64 (st.1 : Int)), (9, m2), (7, m1), (6, .pointer (some ⟨p, 0, none⟩)), (0, .slice A at'.length cp), (1, .slice A2 keep.length cp2)]) (fun st => [st.2.2.2.2, devC p bn bw bl 64 st.2.1, ch]) (fun st => st.1 ≤ 40 ∧ Kept2 (gotM ks F (fun _ => 0)) m2 st.2.1 st.2.2.1 st.2.2.2.1 st.2.2.2.2) (fun st => 40 - st.1) (0, s2, [], (fun _ => 0), ch2) ?st16_j ?st16_e ?st16_h ?st16_r
        case st16_j => exact ⟨by omega, hs2⟩
        case st16_e => repeat (first | exact Env.Le.nil _ | refine Env.Le.cons rfl ?_)
        case st16_h => repeat (first | exact Sub.heap_nil _ | exact Sub.refl _ | refine Sub.heap_cons (by repeat (first | exact Take.head _ _ | apply Take.tail)) ?_)
        case st16_r =>
          rintro ⟨j, t, ks2, F2, cht⟩ ⟨hj, ht⟩; dsimp only at hj ht
          refine CW.seq ?_
          refine CW.seq ?_
          refine CW.region ?_
          refine LW.move rfl rfl ?_
          refine LW.move rfl rfl ?_
          refine LW.lenSlice rfl Tryd.underlying33 rfl ?_
          by_cases hja : j < at'.length
          · refine LW.lss true rfl rfl (decide_eq_true (by omega)) rfl ?_
            refine LW.move rfl rfl ?_
            refine LW.on 60 rfl rfl ?_
            refine LW.move rfl rfl ?_
            refine LW.on 60 rfl rfl ?_
            refine LW.lss (decide ((j : Int) < 40)) rfl rfl (rfl) rfl ?_
            refine LW.pickT rfl rfl rfl ?_
            refine LW.nil ?_
            refine NW.then_ ?_
            refine CW.cond rfl (fun hc63 => ?_) (fun hc63 => ?_)
            · have hj40 : j < 40 := by have := of_decide_eq_true hc63; omega
              obtain ⟨a, rfl⟩ : ∃ a, A = some a := hat.some (by rw [List.length_map]; omega)
              have hgi : (at'.map i64v)[j]? = some (i64v (at'.getD j 0)) := by simp [List.getD, List.getElem?_eq_getElem hja]
              obtain ⟨k, hk, hk64, hx1, hx2⟩ := mod_pos (at'.getD j 0) 64 (by decide) (by decide)
              generalize at'.getD j 0 = x at hgi hk hx1 hx2
              refine CW.skip ?_
              refine NW.then_ ?_
              refine CW.seq ?_
              refine CW.block ?_
              refine CW.seq ?_
              refine CW.region ?_
              refine LW.move rfl rfl ?_
              refine LW.move rfl rfl ?_
              refine LW.indexAt rfl rfl Tryd.underlying33 FactsLawLoose.ixs33 (by omega) (by omega) rfl ?_
              refine LW.loadRd (v := .int .i64 x) rfl (hat.rd (Take.none _)) (by simpa [i64v] using hgi) FactsLawLoose.one3 rfl ?_
              refine LW.rem (x.tmod 64) rfl rfl (by decide) (rfl) rfl ?_
              refine LW.add (x.tmod 64 + 64) rfl rfl (by first | rfl | exact wr64 (by omega) (by omega) (by omega)) rfl ?_
              refine LW.rem ((k : Int)) rfl rfl (by decide) (hk) rfl ?_
              refine LW.assign rfl rfl ?_
              refine LW.nil ?_
              refine NW.then_ ?_
              refine CW.seq ?_
              refine CW.region ?_
              refine LW.move rfl rfl ?_
              refine LW.move rfl rfl ?_
              refine LW.move rfl rfl ?_
              refine LW.add ((100 + j : Int)) rfl rfl (by first | rfl | exact wr64 (by omega) (by omega) (by omega)) rfl ?_
              refine LW.convInt (((UInt8.ofNat (100 + j)).toNat : Int)) rfl Tryd.underlying3 Tryd.underlying5 ((by rw [wrap_u8, UInt8.toNat_ofNat', UInt8.toNat_ofNat']; omega)) rfl ?_
              refine LW.mapSet rfl rfl rfl (ht.own) (by repeat (first | exact Take.head _ _ | apply Take.tail)) Tryd.underlying59 Tryd.underlying3 ?_
              intro ch' ho'; rw [numM_set] at ho'
              refine LW.nil ?_
              refine NW.then_ ?_
              refine CW.seq ?_
              refine CW.region ?_
              refine LW.move rfl rfl ?_
              refine LW.move rfl rfl ?_
              refine LW.move rfl rfl ?_
              refine LW.move rfl rfl ?_
              refine LW.mapGet1 (((UInt8.ofNat (100 + j)).toNat : Int)) rfl rfl (ho') (by repeat (first | exact Take.head _ _ | apply Take.tail)) Tryd.underlying59 Tryd.underlying3 FactsLawLoose.zero5 ((by rw [if_pos ((mem_set _ _ _).2 (.inr rfl))]; simp [numM])) rfl ?_
              refine LW.call (law_Bytes W B (UInt8.ofNat (100 + j))) Tryd.func18 rfl FactsLawLoose.fname18 ⟨rfl, trivial⟩ (Take.none _) rfl ?_
              rintro _ _ ⟨b1, rfl, rfl⟩
              refine LW.call (dev_Write_ok W B p bn bw bl 64 t ht.ok k (by omega) ht.up [cr b1 5 ((bytes (UInt8.ofNat (100 + j))).map u8v)] (some ⟨b1, 0, none⟩) 64 (bytes (UInt8.ofNat (100 + j))) (bytes_len _) (Src.row (fun j v hj => by rw [Nat.zero_add]; exact hj))) Tryd.func19 rfl FactsLawLoose.fname19 ⟨rfl, rfl, rfl, trivial⟩ (Take.both (by repeat (first | exact Take.head _ _ | apply Take.tail)) (by repeat (first | exact Take.head _ _ | apply Take.tail))) rfl ?_
              rintro _ _ ⟨rfl, rfl⟩; refine LW.split2 ?_
              refine LW.neq false rfl rfl (rfl) rfl ?_
              refine LW.nil ?_
              refine NW.then_ ?_
              refine CW.cond_false rfl ?_
              refine CW.skip ?_
              refine NW.block ?_
              refine NW.then_ ?_
              refine CW.region ?_
              refine LW.move rfl rfl ?_
              refine LW.add ((j + 1 : Int)) rfl rfl (by first | rfl | exact wr64 (by omega) (by omega) (by omega)) rfl ?_
              refine LW.assign rfl rfl ?_
              refine LW.nil ?_
              refine NW.meet ((j + 1, (t.put k (bytes (UInt8.ofNat (100 + j)))).burn, (if (k : Int) ∈ ks2 then ks2 else ks2 ++ [(k : Int)]), (fun q => if q = (k : Int) then UInt8.ofNat (100 + j) else F2 q), ch')) ?j2 ?e2 ?h2
              case j2 => exact ⟨⟨by dsimp only; omega, ht.put (by omega) _ (bytes_len _) ho'⟩, by dsimp only; omega⟩
              case e2 => repeat (first | exact Env.Le.nil _ | refine Env.Le.cons rfl ?_)
              case h2 => repeat (first | exact Sub.heap_nil _ | exact Sub.refl _ | refine Sub.heap_cons (by repeat (first | exact Take.head _ _ | apply Take.tail)) ?_)
            · refine CW.exit ?_
              refine NW.then_exit ?_
              refine NW.then_exit ?_
              refine NW.block_exit ?_
              refine NW.meet ((t, ks2, F2, cht)) ?j3 ?e3 ?h3
              case j3 => exact ht
              case e3 => repeat (first | exact Env.Le.nil _ | refine Env.Le.cons rfl ?_)
              case h3 => repeat (first | exact Sub.heap_nil _ | exact Sub.refl _ | refine Sub.heap_cons (by repeat (first | exact Take.head _ _ | apply Take.tail)) ?_)
          · refine LW.lss false rfl rfl (decide_eq_false (by omega)) rfl ?_
            refine LW.move rfl rfl ?_
            refine LW.off 60 rfl rfl rfl rfl ?_
            refine LW.off 60 rfl rfl rfl rfl ?_
            refine LW.pickF rfl rfl rfl ?_
            refine LW.nil ?_
            refine NW.then_ ?_
            refine CW.cond_false rfl ?_
            refine CW.exit ?_
            refine NW.then_exit ?_
            refine NW.then_exit ?_
            refine NW.block_exit ?_
            refine NW.meet ((t, ks2, F2, cht)) ?j4 ?e4 ?h4
            case j4 => exact ht
            case e4 => repeat (first | exact Env.Le.nil _ | refine Env.Le.cons rfl ?_)
            case h4 => repeat (first | exact Sub.heap_nil _ | exact Sub.refl _ | refine Sub.heap_cons (by repeat (first | exact Take.head _ _ | apply Take.tail)) ?_)
      case cut22_2 =>
        rintro ⟨t, ks2, F2, cht⟩ ht; dsimp only at ht
        refine CW.seq ?_
        refine CW.region ?_
        refine LW.move rfl rfl ?_
        refine LW.call (dev_Loose W B p bn bw bl 64 t ht.ok) Tryd.func22 rfl FactsLawLoose.fname22 ⟨rfl, trivial⟩ (by repeat (first | exact Take.head _ _ | apply Take.tail)) rfl ?_
        rintro v _ ⟨chL, hoL, rfl⟩; obtain ⟨A3, cp3, rfl, hA3, hc3⟩ := hoL.val; refine LW.split2 ?_
        refine LW.assign rfl rfl ?_
        refine LW.nil ?_
        refine NW.then_ ?_
        refine CW.seq ?_
        refine CW.region ?_
        refine LW.move rfl rfl ?_
        refine LW.move rfl rfl ?_
        refine LW.call (dev_Crash W B p bn bw bl 64 t ht.ok [] A2 cp2 keep hsrc) Tryd.func21 rfl FactsLawLoose.fname21 ⟨rfl, rfl, trivial⟩ (Take.both (Take.none _) (by repeat (first | exact Take.head _ _ | apply Take.tail))) rfl ?_
        rintro _ _ ⟨dp, dn, dw, dl, rfl, rfl⟩; refine LW.split2 (LW.split2p ?_)
        refine LW.assign rfl rfl ?_
        refine LW.nil ?_
        refine NW.then_ ?_
        refine CW.seq ?_
        refine CW.seq ?_
        refine CW.region ?_
        refine LW.move rfl rfl ?_
        refine LW.lenSlice rfl Tryd.underlying33 rfl ?_
        refine LW.move rfl rfl ?_
        refine LW.mapLen rfl (ht.own) (by repeat (first | exact Take.head _ _ | apply Take.tail)) Tryd.underlying59 rfl ?_
        refine LW.neq false rfl rfl (bne_eq_false_iff_eq.2 (by rw [ht.len])) rfl ?_
        refine LW.move rfl rfl ?_
        refine LW.on 96 rfl rfl ?_
        refine LW.move rfl rfl ?_
        refine LW.on 96 rfl rfl ?_
        refine LW.ptrNil _ rfl Tryd.underlying24 rfl rfl ?_
        refine LW.pickF rfl rfl rfl ?_
        refine LW.move rfl rfl ?_
        refine LW.on 100 rfl rfl ?_
        refine LW.move rfl rfl ?_
        refine LW.on 100 rfl rfl ?_
        refine LW.call (dev_Loose W B dp dn dw dl 64 (t.crash 64 keep) (ht.ok.crash keep)) Tryd.func22 rfl FactsLawLoose.fname22 ⟨rfl, trivial⟩ (by repeat (first | exact Take.head _ _ | apply Take.tail)) rfl ?_
        rw [no_loose (s := t.crash 64 keep) rfl]; rintro v _ ⟨chy, hoy, rfl⟩; obtain ⟨A4, cp4, rfl, _, _⟩ := hoy.val; refine LW.split2 ?_
        refine LW.on 100 rfl rfl ?_
        refine LW.lenSlice rfl Tryd.underlying33 rfl ?_
        refine LW.on 100 rfl rfl ?_
        refine LW.neq false rfl rfl (rfl) rfl ?_
        refine LW.pickF rfl rfl rfl ?_
        refine LW.nil ?_
        refine NW.then_ ?_
        refine CW.cond_false rfl ?_
        refine CW.skip ?_
        refine NW.then_ ?_
        refine CW.seq ?_
        refine CW.region ?_
        refine LW.makeMap (.i64) ((fun _ => 0)) rfl ?_
        intro m3 ch3 om3
        refine LW.assign rfl rfl ?_
        refine LW.nil ?_
        refine NW.then_ ?_
        refine CW.seq ?_
        refine CW.seq ?_
        have hP3 := Placed.start (L := looseTo t 64) om3
        have hLn := loose_nodup t 64
        have hLp := loose_pair t 64
        have hLm := ht.mem
        have hgo : ∀ q : Nat, q < 64 → ¬ (q : Int) ∈ ks2 → (t.crash 64 keep).now.getD q [] = bytes (gotM ks F (fun _ => 0) q) := fun q h1 h2 => ht.gone keep h1 h2
        have hle : ∀ q k : Nat, (looseTo t 64)[k]? = some q → (t.crash 64 keep).now.getD q [] = bytes (if keep.getD k false then F2 (q : Int) else gotM ks F (fun _ => 0) q) := fun q k h => ht.left keep h
        have hcr := ht.ok.crash keep
        have hLl := looseTo_len t 64
        have hom2 := ht.own
        have hL64 : ∀ x ∈ looseTo t 64, x < 64 := fun x hx => looseTo_lt hx
        generalize t.crash 64 keep = d at hgo hle hcr ⊢
        generalize looseTo t 64 = L at hP3 hLn hLp hLm hle hA3 hc3 hoL hL64 hLl ⊢
        refine CW.region ?_
        refine LW.move rfl rfl ?_
        refine LW.lenSlice rfl Tryd.underlying33 rfl ?_
        refine LW.move rfl rfl ?_
        refine LW.nil ?_
        refine NW.then_ ?_
        refine CW.block ?_
        refine CW.loop (fun st : Nat × List Int × (Int → Int) × List Row => [(109, .int .i64 (st.1 : Int)), (108, .int .i64 (L.length : Int)), (14, m3), (13, .pointer (some ⟨dp, 0, none⟩)), (12, .slice A3 L.length cp3), (9, m2), (7, m1), (1, .slice A2 keep.length cp2)]) (fun st => [st.2.2.2, chL, cht, devC dp dn dw dl 64 d, ch]) (fun st => st.1 ≤ L.length ∧ Placed L st.1 m3 st.2.1 st.2.2.1 st.2.2.2) (fun st => L.length - st.1) (0, [], (fun _ => 0), ch3) ?st28_j ?st28_e ?st28_h ?st28_r
        case st28_j => exact ⟨Nat.zero_le _, hP3⟩
        case st28_e => repeat (first | exact Env.Le.nil _ | refine Env.Le.cons rfl ?_)
        case st28_h => repeat (first | exact Sub.heap_nil _ | exact Sub.refl _ | refine Sub.heap_cons (by repeat (first | exact Take.head _ _ | apply Take.tail)) ?_)
        case st28_r =>
          rintro ⟨k, ks3, P, ch3⟩ ⟨hk, hP⟩; dsimp only at hk hP
          refine CW.seq ?_
          refine CW.region ?_
          refine LW.lss (decide ((k : Int) < (L.length : Int))) rfl rfl (rfl) rfl ?_
          refine LW.nil ?_
          refine NW.then_ ?_
          refine CW.seq ?_
          refine CW.cond rfl (fun hc110 => ?_) (fun hc110 => ?_)
          · have hkn : k < L.length := by simpa using hc110
            obtain ⟨a3, rfl⟩ : ∃ a, A3 = some a := by
              cases A3 with
              | none => have := hA3 rfl; omega
              | some a => exact ⟨a, rfl⟩
            have hgL : L[k]? = some (L.getD k 0) := by simp [List.getD, List.getElem?_eq_getElem hkn]
            have hl64 := hL64 _ (List.mem_of_getElem? hgL)
            have hk2 := (hLm _).1 (List.mem_of_getElem? hgL)
            have hprev : 0 < k → ∃ y, L[k - 1]? = some y ∧ y < L.getD k 0 := fun h => by
              have h1 : L[k - 1]? = some (L.getD (k - 1) 0) := by simp [List.getD, List.getElem?_eq_getElem (show k - 1 < L.length by omega)]
              refine ⟨_, h1, ?_⟩
              have := List.pairwise_iff_getElem.1 hLp (k - 1) k (by omega) hkn (by omega)
              simpa [List.getD, List.getElem?_eq_getElem hkn, List.getElem?_eq_getElem (show k - 1 < L.length by omega)] using this
            generalize L.getD k 0 = x at hgL hl64 hk2 hprev
            refine CW.skip ?_
            refine NW.then_ ?_
            refine CW.seq ?_
            refine CW.block ?_
            refine CW.seq ?_
            refine CW.region ?_
            refine LW.move rfl rfl ?_
            refine LW.assign rfl rfl ?_
            refine LW.nil ?_
            refine NW.then_ ?_
            refine CW.seq ?_
            refine CW.seq ?_
            refine CW.region ?_
            refine LW.move rfl rfl ?_
            refine LW.move rfl rfl ?_
            refine LW.move rfl rfl ?_
            refine LW.indexAt rfl rfl Tryd.underlying33 FactsLawLoose.ixs33 (by omega) (by omega) rfl ?_
            refine LW.loadRd (v := .int .i64 (x : Int)) rfl (hoL.src.rd (by repeat (first | exact Take.head _ _ | apply Take.tail))) (by simp [hgL, intV]) FactsLawLoose.one3 rfl ?_
            refine LW.mapGet2 (numM F2 (x : Int)) (true) rfl rfl (hom2) (by repeat (first | exact Take.head _ _ | apply Take.tail)) Tryd.underlying59 Tryd.underlying3 FactsLawLoose.zero5 (if_pos hk2) (decide_eq_true hk2) rfl ?_
            refine LW.move rfl rfl ?_
            refine LW.extract rfl rfl rfl ?_
            refine LW.extract rfl rfl rfl ?_
            refine LW.assign rfl rfl ?_
            refine LW.assign rfl rfl ?_
            refine LW.nil ?_
            refine NW.then_ ?_
            refine CW.seq ?_
            refine CW.quiet FactsLawLoose.mixed (by kernel_rfl) ?_
            refine QW.step (Yl.move rfl) rfl ?_
            refine QW.step (Yl.not _ rfl rfl) rfl ?_
            refine QW.step (Yl.move rfl) rfl ?_
            refine QW.on 123 rfl rfl ?_
            refine QW.step (Yl.move rfl) rfl ?_
            by_cases hk0 : 0 < k
            · refine QW.on 123 rfl rfl ?_
              refine QW.step (Yl.gtr true rfl rfl (decide_eq_true (by omega))) rfl ?_
              refine QW.on 123 rfl rfl ?_
              refine QW.step (Yl.move rfl) rfl ?_
              refine QW.on 126 rfl rfl ?_
              refine QW.step (Yl.move rfl) rfl ?_
              refine QW.on 126 rfl rfl ?_
              refine QW.step (Yl.move rfl) rfl ?_
              refine QW.on 126 rfl rfl ?_
              obtain ⟨y, hy1, hy2⟩ := hprev hk0
              refine QW.step (Yl.sub (((k - 1 : Nat) : Int)) rfl rfl (by exact wr64 (by omega) (by omega) (by omega))) rfl ?_
              refine QW.on 126 rfl rfl ?_
              refine QW.step (Yl.indexAt rfl rfl Tryd.underlying33 FactsLawLoose.ixs33 (by omega) (by omega)) rfl ?_
              refine QW.on 126 rfl rfl ?_
              refine QW.step (Yl.loadRd (v := .int .i64 (y : Int)) rfl (hoL.src.rd (by repeat (first | exact Take.head _ _ | apply Take.tail))) (by simp [hy1, intV]) FactsLawLoose.one3) rfl ?_
              refine QW.on 126 rfl rfl ?_
              refine QW.step (Yl.move rfl) rfl ?_
              refine QW.on 126 rfl rfl ?_
              refine QW.step (Yl.move rfl) rfl ?_
              refine QW.on 126 rfl rfl ?_
              refine QW.step (Yl.indexAt rfl rfl Tryd.underlying33 FactsLawLoose.ixs33 (by omega) (by omega)) rfl ?_
              refine QW.on 126 rfl rfl ?_
              refine QW.step (Yl.loadRd (v := .int .i64 (x : Int)) rfl (hoL.src.rd (by repeat (first | exact Take.head _ _ | apply Take.tail))) (by simp [hgL, intV]) FactsLawLoose.one3) rfl ?_
              refine QW.on 126 rfl rfl ?_
              refine QW.step (Yl.geq false rfl rfl (decide_eq_false (by omega))) rfl ?_
              refine QW.on 123 rfl rfl ?_
              refine QW.step (Yl.pickT rfl rfl) rfl ?_
              refine QW.step (Yl.pickF rfl rfl) rfl ?_
              refine QW.nil ?_
              refine NW.then_ ?_
              refine CW.cond_false rfl ?_
              refine CW.skip ?_
              refine NW.then_ ?_
              refine CW.region ?_
              refine LW.move rfl rfl ?_
              refine LW.move rfl rfl ?_
              refine LW.move rfl rfl ?_
              refine LW.indexAt rfl rfl Tryd.underlying33 FactsLawLoose.ixs33 (by omega) (by omega) rfl ?_
              refine LW.loadRd (v := .int .i64 (x : Int)) rfl (hoL.src.rd (by repeat (first | exact Take.head _ _ | apply Take.tail))) (by simp [hgL, intV]) FactsLawLoose.one3 rfl ?_
              refine LW.move rfl rfl ?_
              refine LW.mapSet rfl rfl rfl (hP.own) (by repeat (first | exact Take.head _ _ | apply Take.tail)) Tryd.underlying60 Tryd.underlying3 ?_
              intro ch' ho'
              refine LW.nil ?_
              refine NW.block ?_
              refine NW.then_ ?_
              refine CW.region ?_
              refine LW.add ((k + 1 : Int)) rfl rfl (by first | rfl | exact wr64 (by omega) (by omega) (by omega)) rfl ?_
              refine LW.move rfl rfl ?_
              refine LW.nil ?_
              refine NW.meet ((k + 1, (if (x : Int) ∈ ks3 then ks3 else ks3 ++ [(x : Int)]), (fun q => if q = (x : Int) then (k : Int) else P q), ch')) ?j5 ?e5 ?h5
              case j5 => exact ⟨⟨by dsimp only; omega, hP.put hLn hgL ho'⟩, by dsimp only; omega⟩
              case e5 => repeat (first | exact Env.Le.nil _ | refine Env.Le.cons rfl ?_)
              case h5 => repeat (first | exact Sub.heap_nil _ | exact Sub.refl _ | refine Sub.heap_cons (by repeat (first | exact Take.head _ _ | apply Take.tail)) ?_)
            · refine QW.on 123 rfl rfl ?_
              refine QW.step (Yl.gtr false rfl rfl (decide_eq_false (by omega))) rfl ?_
              refine QW.on 123 rfl rfl ?_
              refine QW.step (Yl.move rfl) rfl ?_
              refine QW.off 126 rfl rfl rfl rfl ?_
              refine QW.off 126 rfl rfl rfl rfl ?_
              refine QW.off 126 rfl rfl rfl rfl ?_
              refine QW.off 126 rfl rfl rfl rfl ?_
              refine QW.off 126 rfl rfl rfl rfl ?_
              refine QW.off 126 rfl rfl rfl rfl ?_
              refine QW.off 126 rfl rfl rfl rfl ?_
              refine QW.off 126 rfl rfl rfl rfl ?_
              refine QW.off 126 rfl rfl rfl rfl ?_
              refine QW.off 126 rfl rfl rfl rfl ?_
              refine QW.on 123 rfl rfl ?_
              refine QW.step (Yl.pickF rfl rfl) rfl ?_
              refine QW.step (Yl.pickF rfl rfl) rfl ?_
              refine QW.nil ?_
              refine NW.then_ ?_
              refine CW.cond_false rfl ?_
              refine CW.skip ?_
              refine NW.then_ ?_
              refine CW.region ?_
              refine LW.move rfl rfl ?_
              refine LW.move rfl rfl ?_
              refine LW.move rfl rfl ?_
              refine LW.indexAt rfl rfl Tryd.underlying33 FactsLawLoose.ixs33 (by omega) (by omega) rfl ?_
              refine LW.loadRd (v := .int .i64 (x : Int)) rfl (hoL.src.rd (by repeat (first | exact Take.head _ _ | apply Take.tail))) (by simp [hgL, intV]) FactsLawLoose.one3 rfl ?_
              refine LW.move rfl rfl ?_
              refine LW.mapSet rfl rfl rfl (hP.own) (by repeat (first | exact Take.head _ _ | apply Take.tail)) Tryd.underlying60 Tryd.underlying3 ?_
              intro ch' ho'
              refine LW.nil ?_
              refine NW.block ?_
              refine NW.then_ ?_
              refine CW.region ?_
              refine LW.add ((k + 1 : Int)) rfl rfl (by first | rfl | exact wr64 (by omega) (by omega) (by omega)) rfl ?_
              refine LW.move rfl rfl ?_
              refine LW.nil ?_
              refine NW.meet ((k + 1, (if (x : Int) ∈ ks3 then ks3 else ks3 ++ [(x : Int)]), (fun q => if q = (x : Int) then (k : Int) else P q), ch')) ?j6 ?e6 ?h6
              case j6 => exact ⟨⟨by dsimp only; omega, hP.put hLn hgL ho'⟩, by dsimp only; omega⟩
              case e6 => repeat (first | exact Env.Le.nil _ | refine Env.Le.cons rfl ?_)
              case h6 => repeat (first | exact Sub.heap_nil _ | exact Sub.refl _ | refine Sub.heap_cons (by repeat (first | exact Take.head _ _ | apply Take.tail)) ?_)
          · have hkn : k = L.length := by have := of_decide_eq_false hc110; omega
            subst hkn
            refine CW.exit ?_
            refine NW.then_exit ?_
            refine NW.then_exit ?_
            refine NW.block_exit ?_
            refine NW.then_ ?_
            refine CW.seq ?_
            refine CW.seq ?_
            refine CW.region ?_
            refine LW.assign rfl rfl ?_
            refine LW.nil ?_
            refine NW.then_ ?_
            refine CW.block ?_
            refine CW.loop (fun i : Nat => [(18, .int .i64 (i : Int)), (14, m3), (13, .pointer (some ⟨dp, 0, none⟩)), (9, m2), (7, m1), (1, .slice A2 keep.length cp2)]) (fun _ => [ch3, cht, devC dp dn dw dl 64 d, ch]) (fun i => i ≤ 64) (fun i => 64 - i) 0 ?st36_j ?st36_e ?st36_h ?st36_r
            case st36_j => exact Nat.zero_le _
            case st36_e => repeat (first | exact Env.Le.nil _ | refine Env.Le.cons rfl ?_)
            case st36_h => repeat (first | exact Sub.heap_nil _ | exact Sub.refl _ | refine Sub.heap_cons (by repeat (first | exact Take.head _ _ | apply Take.tail)) ?_)
            case st36_r =>
              intro i hi
              refine CW.seq ?_
              refine CW.seq ?_
              refine CW.region ?_
              refine LW.move rfl rfl ?_
              refine LW.lss (decide ((i : Int) < 64)) rfl rfl (rfl) rfl ?_
              refine LW.nil ?_
              refine NW.then_ ?_
              refine CW.cond rfl (fun hc147 => ?_) (fun hc147 => ?_)
              · have hi64 : i < 64 := by have := of_decide_eq_true hc147; omega
                refine CW.skip ?_
                refine NW.then_ ?_
                refine CW.seq ?_
                refine CW.block ?_
                refine CW.seq ?_
                refine CW.region ?_
                refine LW.move rfl rfl ?_
                refine LW.move rfl rfl ?_
                refine LW.mapGet1 (((gotM ks F (fun _ => 0) i).toNat : Int)) rfl rfl (hs.own) (by repeat (first | exact Take.head _ _ | apply Take.tail)) Tryd.underlying59 Tryd.underlying3 FactsLawLoose.zero5 ((by unfold gotM numM; split <;> rfl)) rfl ?_
                refine LW.assign rfl rfl ?_
                refine LW.nil ?_
                refine NW.then_ ?_
                refine CW.cut (fun b : UInt8 => [(19, .int .u8 (b.toNat : Int)), (18, .int .i64 (i : Int)), (14, m3), (13, .pointer (some ⟨dp, 0, none⟩)), (9, m2), (7, m1), (1, .slice A2 keep.length cp2)]) (fun _ => [ch3, cht, devC dp dn dw dl 64 d, ch]) (fun b => d.now.getD i [] = bytes b) ?cut42_1 ?cut42_2
                case cut42_1 =>
                  refine CW.seq ?_
                  refine CW.region ?_
                  refine LW.move rfl rfl ?_
                  refine LW.move rfl rfl ?_
                  by_cases him : (i : Int) ∈ ks3
                  · obtain ⟨k, hk, hkL⟩ := (hP.keys i).1 him
                    refine LW.mapGet2 ((k : Int)) (true) rfl rfl (hP.own) (by repeat (first | exact Take.head _ _ | apply Take.tail)) Tryd.underlying60 Tryd.underlying3 FactsLawLoose.zero3 ((by rw [if_pos him]; exact hP.spot k i hk hkL)) (decide_eq_true him) rfl ?_
                    refine LW.move rfl rfl ?_
                    refine LW.extract rfl rfl rfl ?_
                    refine LW.extract rfl rfl rfl ?_
                    refine LW.assign rfl rfl ?_
                    refine LW.assign rfl rfl ?_
                    refine LW.nil ?_
                    refine NW.then_ ?_
                    refine CW.seq ?_
                    refine CW.region ?_
                    refine LW.move rfl rfl ?_
                    refine LW.move rfl rfl ?_
                    refine LW.on 160 rfl rfl ?_
                    refine LW.move rfl rfl ?_
                    refine LW.on 160 rfl rfl ?_
                    refine LW.move rfl rfl ?_
                    refine LW.on 160 rfl rfl ?_
                    refine LW.lenSlice rfl Tryd.underlying22 rfl ?_
                    by_cases hkk : k < keep.length
                    · refine LW.on 160 rfl rfl ?_
                      refine LW.lss true rfl rfl (decide_eq_true (by omega)) rfl ?_
                      refine LW.pickT rfl rfl rfl ?_
                      refine LW.move rfl rfl ?_
                      refine LW.on 166 rfl rfl ?_
                      refine LW.move rfl rfl ?_
                      refine LW.on 166 rfl rfl ?_
                      refine LW.move rfl rfl ?_
                      refine LW.on 166 rfl rfl ?_
                      obtain ⟨a2, rfl⟩ : ∃ a, A2 = some a := hsrc.some (by rw [List.length_map]; omega)
                      refine LW.indexAt rfl rfl Tryd.underlying22 FactsLawLoose.ixs22 (by omega) (by omega) rfl ?_
                      by_cases hkt : keep.getD k false = true
                      · refine LW.on 166 rfl rfl ?_
                        refine LW.loadRd (v := .bool true) rfl (hsrc.rd (Take.none _)) (by rw [← hkt]; simp [List.getD, List.getElem?_eq_getElem hkk]) FactsLawLoose.one4 rfl ?_
                        refine LW.pickT rfl rfl rfl ?_
                        refine LW.nil ?_
                        refine NW.then_ ?_
                        refine CW.cond_true rfl ?_
                        refine CW.region ?_
                        refine LW.move rfl rfl ?_
                        refine LW.move rfl rfl ?_
                        refine LW.mapGet1 (((F2 (i : Int)).toNat : Int)) rfl rfl (hom2) (by repeat (first | exact Take.head _ _ | apply Take.tail)) Tryd.underlying59 Tryd.underlying3 FactsLawLoose.zero5 ((by rw [if_pos ((hLm i).1 (List.mem_of_getElem? hkL))]; rfl)) rfl ?_
                        refine LW.assign rfl rfl ?_
                        refine LW.nil ?_
                        refine NW.meet (F2 (i : Int)) ?j7 ?e7 ?h7
                        case j7 => have hb := hle i k hkL; rw [if_pos hkt] at hb; exact hb
                        case e7 => repeat (first | exact Env.Le.nil _ | refine Env.Le.cons rfl ?_)
                        case h7 => repeat (first | exact Sub.heap_nil _ | exact Sub.refl _ | refine Sub.heap_cons (by repeat (first | exact Take.head _ _ | apply Take.tail)) ?_)
                      · refine LW.on 166 rfl rfl ?_
                        refine LW.loadRd (v := .bool false) rfl (hsrc.rd (Take.none _)) (by rw [← Bool.eq_false_iff.2 hkt]; simp [List.getD, List.getElem?_eq_getElem hkk]) FactsLawLoose.one4 rfl ?_
                        refine LW.pickT rfl rfl rfl ?_
                        refine LW.nil ?_
                        refine NW.then_ ?_
                        refine CW.cond_false rfl ?_
                        refine CW.skip ?_
                        refine NW.meet (gotM ks F (fun _ => 0) i) ?j8 ?e8 ?h8
                        case j8 => have hb := hle i k hkL; rw [if_neg hkt] at hb; exact hb
                        case e8 => repeat (first | exact Env.Le.nil _ | refine Env.Le.cons rfl ?_)
                        case h8 => repeat (first | exact Sub.heap_nil _ | exact Sub.refl _ | refine Sub.heap_cons (by repeat (first | exact Take.head _ _ | apply Take.tail)) ?_)
                    · refine LW.on 160 rfl rfl ?_
                      refine LW.lss false rfl rfl (decide_eq_false (by omega)) rfl ?_
                      refine LW.pickT rfl rfl rfl ?_
                      refine LW.move rfl rfl ?_
                      refine LW.off 166 rfl rfl rfl rfl ?_
                      refine LW.off 166 rfl rfl rfl rfl ?_
                      refine LW.off 166 rfl rfl rfl rfl ?_
                      refine LW.off 166 rfl rfl rfl rfl ?_
                      refine LW.pickF rfl rfl rfl ?_
                      refine LW.nil ?_
                      refine NW.then_ ?_
                      refine CW.cond_false rfl ?_
                      refine CW.skip ?_
                      refine NW.meet (gotM ks F (fun _ => 0) i) ?j9 ?e9 ?h9
                      case j9 => have hb := hle i k hkL; rw [if_neg (by simp [List.getD, List.getElem?_eq_none (Nat.le_of_not_lt hkk)])] at hb; exact hb
                      case e9 => repeat (first | exact Env.Le.nil _ | refine Env.Le.cons rfl ?_)
                      case h9 => repeat (first | exact Sub.heap_nil _ | exact Sub.refl _ | refine Sub.heap_cons (by repeat (first | exact Take.head _ _ | apply Take.tail)) ?_)
                  · refine LW.mapGet2 ((0 : Int)) (false) rfl rfl (hP.own) (by repeat (first | exact Take.head _ _ | apply Take.tail)) Tryd.underlying60 Tryd.underlying3 FactsLawLoose.zero3 (if_neg him) (decide_eq_false him) rfl ?_
                    refine LW.move rfl rfl ?_
                    refine LW.extract rfl rfl rfl ?_
                    refine LW.extract rfl rfl rfl ?_
                    refine LW.assign rfl rfl ?_
                    refine LW.assign rfl rfl ?_
                    refine LW.nil ?_
                    refine NW.then_ ?_
                    refine CW.seq ?_
                    refine CW.region ?_
                    refine LW.move rfl rfl ?_
                    refine LW.move rfl rfl ?_
                    refine LW.off 160 rfl rfl rfl rfl ?_
                    refine LW.off 160 rfl rfl rfl rfl ?_
                    refine LW.off 160 rfl rfl rfl rfl ?_
                    refine LW.off 160 rfl rfl rfl rfl ?_
                    refine LW.pickF rfl rfl rfl ?_
                    refine LW.move rfl rfl ?_
                    refine LW.off 166 rfl rfl rfl rfl ?_
                    refine LW.off 166 rfl rfl rfl rfl ?_
                    refine LW.off 166 rfl rfl rfl rfl ?_
                    refine LW.off 166 rfl rfl rfl rfl ?_
                    refine LW.pickF rfl rfl rfl ?_
                    refine LW.nil ?_
                    refine NW.then_ ?_
                    refine CW.cond_false rfl ?_
                    refine CW.skip ?_
                    refine NW.meet (gotM ks F (fun _ => 0) i) ?j10 ?e10 ?h10
                    case j10 => exact hgo i hi64 (fun hm => him ((hP.keys i).2 (by obtain ⟨k, hk⟩ := List.mem_iff_getElem?.1 ((hLm i).2 hm); exact ⟨k, (List.getElem?_eq_some_iff.1 hk).1, hk⟩)))
                    case e10 => repeat (first | exact Env.Le.nil _ | refine Env.Le.cons rfl ?_)
                    case h10 => repeat (first | exact Sub.heap_nil _ | exact Sub.refl _ | refine Sub.heap_cons (by repeat (first | exact Take.head _ _ | apply Take.tail)) ?_)
                case cut42_2 =>
                  intro b hb
                  refine CW.seq ?_
                  refine CW.region ?_
                  refine LW.move rfl rfl ?_
                  refine LW.move rfl rfl ?_
                  refine LW.call (dev_Read W B dp dn dw dl 64 d hcr i hi64) Tryd.func20 rfl FactsLawLoose.fname20 ⟨rfl, rfl, trivial⟩ (by repeat (first | exact Take.head _ _ | apply Take.tail)) rfl ?_
                  rintro _ _ ⟨q1, rfl, rfl⟩; rw [hb]; refine LW.split1 ?_
                  refine LW.move rfl rfl ?_
                  refine LW.extract rfl rfl rfl ?_
                  refine LW.extract rfl rfl rfl ?_
                  refine LW.assign rfl rfl ?_
                  refine LW.assign rfl rfl ?_
                  refine LW.nil ?_
                  refine NW.then_ ?_
                  refine CW.seq ?_
                  refine CW.drawH [cr q1 92 ((bytes b).map u8v)] FactsLawLoose.mixed ?_
                  refine AW.takes [0, 1, 2, 3, 4, 5] 4 (by kernel_rfl) (by kernel_rfl) rfl (by repeat (first | exact PO.body | refine PO.then_ ?_ | refine PO.block ?_ | refine PO.noGoto ?_)) (fun _ s => Held.of s (by repeat (first | exact Sub.nil _ | refine Sub.cons1 (by repeat (first | exact Take.head _ _ | apply Take.tail)) ?_))) ?_
                  refine TW.take rfl (Yl.move rfl) rfl ?_
                  refine TW.take rfl (Yl.neq false rfl rfl (rfl)) rfl ?_
                  refine TW.take rfl (Yl.move rfl) rfl ?_
                  refine TW.on 183 rfl rfl rfl (Yl.move rfl) rfl ?_
                  refine TW.on 183 rfl rfl rfl (Yl.bytesRow (bytes b) rfl Tryd.underlying26 Tryd.underlying5 Tryd.underlying9 (by repeat (first | exact List.Mem.head _ | refine List.Mem.tail _ ?_)) ((fun j v hj => by rw [Nat.zero_add]; exact hj)) ((bytes_len _).symm)) rfl ?_
                  refine TW.on 183 rfl rfl rfl (Yl.move rfl) rfl ?_
                  refine TW.nil ?_
                  refine AW.act 6 (by kernel_rfl) rfl ?_
                  refine LW.on 183 rfl rfl ?_
                  refine LW.call (law_Bytes W B b) Tryd.func18 rfl FactsLawLoose.fname18 ⟨rfl, trivial⟩ (Take.none _) rfl ?_
                  rintro _ _ ⟨b4, rfl, rfl⟩
                  refine LW.nil ?_
                  refine AW.back (fun _ s => Held.of s (by repeat (first | exact Sub.nil _ | refine Sub.cons1 (by repeat (first | exact Take.head _ _ | apply Take.tail)) ?_))) ?_
                  refine AW.act 7 (by kernel_rfl) rfl ?_
                  refine LW.on 183 rfl rfl ?_
                  refine LW.bytesStr (bytes b) rfl Tryd.underlying26 Tryd.underlying5 Tryd.underlying9 (RdAt.row (by repeat (first | exact Take.head _ _ | apply Take.tail)) (fun j v hj => by rw [Nat.zero_add]; exact hj)) ((bytes_len _).symm) rfl ?_
                  refine LW.nil ?_
                  refine AW.back (fun _ s => Held.of s (by repeat (first | exact Sub.nil _ | refine Sub.cons1 (by repeat (first | exact Take.head _ _ | apply Take.tail)) ?_))) ?_
                  refine AW.takes [8, 9] 0 (by kernel_rfl) (by kernel_rfl) rfl (by repeat (first | exact PO.body | refine PO.then_ ?_ | refine PO.block ?_ | refine PO.noGoto ?_)) (fun _ s => Held.of s (by repeat (first | exact Sub.nil _ | refine Sub.cons1 (by repeat (first | exact Take.head _ _ | apply Take.tail)) ?_))) ?_
                  refine TW.on 183 rfl rfl rfl (Yl.strNeq (false) rfl rfl Tryd.underlying9 (decide_eq_false (by simp))) rfl ?_
                  refine TW.take rfl (Yl.pickF rfl rfl) rfl ?_
                  refine TW.nil ?_
                  refine AW.done (by kernel_rfl) ?_
                  refine NW.then_ ?_
                  refine CW.cond_false rfl ?_
                  refine CW.skip ?_
                  refine NW.block ?_
                  refine NW.then_ ?_
                  refine CW.region ?_
                  refine LW.move rfl rfl ?_
                  refine LW.add ((i + 1 : Int)) rfl rfl (by first | rfl | exact wr64 (by omega) (by omega) (by omega)) rfl ?_
                  refine LW.assign rfl rfl ?_
                  refine LW.nil ?_
                  refine NW.meet (i + 1) ?j11 ?e11 ?h11
                  case j11 => exact ⟨hi64, by omega⟩
                  case e11 => repeat (first | exact Env.Le.nil _ | refine Env.Le.cons rfl ?_)
                  case h11 => repeat (first | exact Sub.heap_nil _ | exact Sub.refl _ | refine Sub.heap_cons (by repeat (first | exact Take.head _ _ | apply Take.tail)) ?_)
              · refine CW.exit ?_
                refine NW.then_exit ?_
                refine NW.then_exit ?_
                refine NW.block_exit ?_
                refine NW.then_ ?_
                refine CW.seq ?_
                refine CW.region ?_
                refine LW.assign rfl rfl ?_
                refine LW.nil ?_
                refine NW.then_ ?_
                refine CW.ret ?_
                refine NW.ret1 rfl rfl ⟨_, ⟨rfl, rfl⟩, ?_⟩
                exact Sub.nil _
end
end Go.Proofs.YtmgpldgldgdenaaDoor
