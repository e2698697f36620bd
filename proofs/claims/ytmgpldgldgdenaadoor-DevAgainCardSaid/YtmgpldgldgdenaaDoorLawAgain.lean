/-
  DevAgain, walked.
-/
import Derived.Test.YtmgpldgldgdenaaDoorLawOwn
import Derived.Test.YtmgpldgldgdenaaDoorOps2
import Derived.Test.YtmgpldgldgdenaaDoorUndef
import Derived.Test.YtmgpldgldgdenaaDoorOld
namespace Go.Proofs.YtmgpldgldgdenaaDoor
open Go.RowKit
namespace FactsLawAgain
theorem fname16 : (Tryd.f16.name == "runtime.NumGoroutine") = false := by kernel_rfl
theorem fname17 : (Tryd.f17.name == "runtime.NumGoroutine") = false := by kernel_rfl
theorem fname18 : (Tryd.f18.name == "runtime.NumGoroutine") = false := by kernel_rfl
theorem fname19 : (Tryd.f19.name == "runtime.NumGoroutine") = false := by kernel_rfl
theorem fname20 : (Tryd.f20.name == "runtime.NumGoroutine") = false := by kernel_rfl
theorem fname21 : (Tryd.f21.name == "runtime.NumGoroutine") = false := by kernel_rfl
theorem fname36 : (Tryd.f36.name == "runtime.NumGoroutine") = false := by kernel_rfl
theorem ixs33 : (Tryd.prog.info? 3).map (·.size) = some 1 := by kernel_rfl
theorem mixed : Tryd.prog.follows .mixedOrders = true := by kernel_rfl
theorem one3 : oneB Tryd.prog 3 = true := by kernel_rfl
end FactsLawAgain
/-- A sector of one small number. -/
def Small (x : List UInt8) : Prop := ∃ v : UInt8, v.toNat ≤ 20 ∧ x = bytes v
structure Tame (s : DevS) : Prop where
  ok : s.Ok 64
  up : s.down = false
  cold : s.fused = false
  now : ∀ x ∈ s.now, Small x
  was : ∀ x ∈ s.was, Small x
theorem Small.zero : Small zSec := ⟨0, by decide, rfl⟩
theorem Tame.start : Tame (DevS.zero 64) :=
  ⟨DevS.Ok.zero (by decide) (by decide), rfl, rfl, fun x hx => by rw [(List.mem_replicate.1 hx).2]; exact Small.zero, fun x hx => by rw [(List.mem_replicate.1 hx).2]; exact Small.zero⟩
theorem burn_cold {s : DevS} (h : s.fused = false) : s.burn = s := by simp [DevS.burn, h]
theorem Tame.put {s : DevS} (h : Tame s) {k : Nat} {b : List UInt8} (hb : b.length = 64) (hs : Small b) : Tame (s.put k b).burn := by
  rw [burn_cold (s := s.put k b) h.cold]
  exact ⟨h.ok.put hb, h.up, h.cold, fun x hx => by
    rcases List.mem_or_eq_of_mem_set hx with h1 | rfl
    · exact h.now x h1
    · exact hs, h.was⟩
theorem Tame.flush {s : DevS} (h : Tame s) : Tame (s.flush 64) := by
  have e1 : s.flush 64 = s.saved 64 := by rw [DevS.flush, if_neg (by simp [h.up]), burn_cold (s := s.saved 64) h.cold]
  rw [e1]
  exact ⟨h.ok.saved, h.up, h.cold, h.now, h.now⟩
theorem Tame.kept {s : DevS} (h : Tame s) (keep : List Bool) : ∀ m, m ≤ (looseTo s 64).length → ∀ x ∈ s.kept (looseTo s 64) keep m, Small x
  | 0, _ => h.now
  | m + 1, hm => fun x hx => by
    rw [DevS.kept_succ] at hx
    split at hx
    · exact h.kept keep m (by omega) x hx
    · rcases List.mem_or_eq_of_mem_set hx with h1 | rfl
      · exact h.kept keep m (by omega) x h1
      · have hg : (looseTo s 64)[m]? = some ((looseTo s 64).getD m 0) := by simp [List.getD, List.getElem?_eq_getElem (show m < (looseTo s 64).length by omega)]
        exact h.was _ (List.mem_of_getElem? (h.ok.was.getD (looseTo_lt (List.mem_of_getElem? hg))))
theorem crash_now {s : DevS} (h : s.loose = List.replicate 64 false) (keep : List Bool) : (s.crash 64 keep).now = s.now := by
  have hl : looseTo s 64 = [] := by unfold looseTo; rw [h]; decide
  simp only [DevS.crash, hl]
  rfl
theorem bytes_inj {a b : UInt8} (h : bytes a = bytes b) : a = b := by
  have := congrArg (fun l : List UInt8 => l.getD 0 0) h
  simpa [bytes] using this
section
variable (W : World) (B : Nat)
set_option maxHeartbeats 2000000 in
theorem law_DevAgain (h0 : 0 < B) (hg : W.cell? ⟨0, 0, none⟩ = some (rty 80)) (A : Option Addr) (cp : Nat) (at' : List Int) (hat : Src W B [] A (at'.map i64v)) (A2 : Option Addr) (cp2 : Nat) (keep : List Bool) (hsrc : Src W B [] A2 (keep.map .bool)) :
    Spec Tryd.prog W B 10 [.slice A at'.length cp, .slice A2 keep.length cp2] [] (fun v post => v = .bool true ∧ post = []) := by
  refine Spec.enter ([]) Tryd.func10 rfl Tryd.ntmps10 rfl (by first | rfl | simp) (fun w0 => ?_)
  refine CW.seq ?_
  refine CW.region ?_
  refine LW.assign rfl rfl ?_
  refine LW.nil ?_
  refine NW.then_ ?_
  refine CW.seq ?_
  refine CW.region ?_
  refine LW.call (law_begun W B h0 hg) Tryd.func16 rfl FactsLawAgain.fname16 trivial (Take.none _) rfl ?_
  rintro _ _ ⟨rfl, rfl⟩
  refine LW.assign rfl rfl ?_
  refine LW.nil ?_
  refine NW.then_ ?_
  refine CW.seq ?_
  refine CW.seq ?_
  refine CW.region ?_
  refine LW.move rfl rfl ?_
  refine LW.not (false) rfl (rfl) rfl ?_
  refine LW.nil ?_
  refine NW.then_ ?_
  refine CW.cond_false rfl ?_
  refine CW.skip ?_
  refine NW.then_ ?_
  refine CW.seq ?_
  refine CW.region ?_
  refine LW.call (dev_New W B 64 (by decide) (by decide)) Tryd.func17 rfl FactsLawAgain.fname17 ⟨rfl, trivial⟩ (Take.none _) rfl ?_
  rintro _ _ ⟨p, bn, bw, bl, rfl, rfl⟩
  refine LW.assign rfl rfl ?_
  refine LW.nil ?_
  refine NW.then_ ?_
  refine CW.cut (fun s : DevS => [(6, .pointer (some ⟨p, 0, none⟩)), (1, .slice A2 keep.length cp2)]) (fun s => [devC p bn bw bl 64 s]) (fun s => Tame s) ?cut11_1 ?cut11_2
  case cut11_1 =>
    refine CW.seq ?_
    refine CW.region ?_
    refine LW.assign rfl rfl ?_
    refine LW.nil ?_
    refine NW.then_ ?_
    refine CW.block ?_
    refine CW.loop (fun st : Nat × DevS => [(7, .int .i64 (st.1 : Int)), (6, .pointer (some ⟨p, 0, none⟩)), (0, .slice A at'.length cp), (1, .slice A2 keep.length cp2)]) (fun st => [devC p bn bw bl 64 st.2]) (fun st => st.1 ≤ 20 ∧ Tame st.2) (fun st => 20 - st.1) (0, DevS.zero 64) ?st6_j ?st6_e ?st6_h ?st6_r
    case st6_j => exact ⟨by omega, Tame.start⟩
    case st6_e => repeat (first | exact Env.Le.nil _ | refine Env.Le.cons rfl ?_)
    case st6_h => repeat (first | exact Sub.heap_nil _ | exact Sub.refl _ | refine Sub.heap_cons (by repeat (first | exact Take.head _ _ | apply Take.tail)) ?_)
    case st6_r =>
      rintro ⟨i, s⟩ ⟨hi, hs⟩; dsimp only at hi hs
      refine CW.seq ?_
      refine CW.seq ?_
      refine CW.region ?_
      refine LW.move rfl rfl ?_
      refine LW.move rfl rfl ?_
      refine LW.lenSlice rfl Tryd.underlying33 rfl ?_
      by_cases hia : i < at'.length
      · refine LW.lss true rfl rfl (decide_eq_true (by omega)) rfl ?_
        refine LW.move rfl rfl ?_
        refine LW.on 24 rfl rfl ?_
        refine LW.move rfl rfl ?_
        refine LW.on 24 rfl rfl ?_
        refine LW.lss (decide ((i : Int) < 20)) rfl rfl (rfl) rfl ?_
        refine LW.pickT rfl rfl rfl ?_
        refine LW.nil ?_
        refine NW.then_ ?_
        refine CW.cond rfl (fun hc27 => ?_) (fun hc27 => ?_)
        · have hi20 : i < 20 := by have := of_decide_eq_true hc27; omega
          obtain ⟨a, rfl⟩ : ∃ a, A = some a := hat.some (by rw [List.length_map]; omega)
          have hgi : (at'.map i64v)[i]? = some (i64v (at'.getD i 0)) := by simp [List.getD, List.getElem?_eq_getElem hia]
          obtain ⟨k, hk, hk64, hx1, hx2⟩ := mod_pos (at'.getD i 0) 64 (by decide) (by decide)
          generalize at'.getD i 0 = x at hgi hk hx1 hx2
          refine CW.skip ?_
          refine NW.then_ ?_
          refine CW.seq ?_
          refine CW.block ?_
          refine CW.seq ?_
          refine CW.drawH [] FactsLawAgain.mixed ?_
          refine AW.take 0 rfl (by kernel_rfl) (by kernel_rfl) (by kernel_rfl) (by repeat (first | exact PO.body | refine PO.then_ ?_ | refine PO.block ?_ | refine PO.noGoto ?_)) (Yl.move rfl) (fun _ s => Held.of s (by repeat (first | exact Sub.nil _ | refine Sub.cons1 (by repeat (first | exact Take.head _ _ | apply Take.tail)) ?_))) rfl ?_
          refine AW.take 1 rfl (by kernel_rfl) (by kernel_rfl) (by kernel_rfl) (by repeat (first | exact PO.body | refine PO.then_ ?_ | refine PO.block ?_ | refine PO.noGoto ?_)) (Yl.move rfl) (fun _ s => Held.of s (by repeat (first | exact Sub.nil _ | refine Sub.cons1 (by repeat (first | exact Take.head _ _ | apply Take.tail)) ?_))) rfl ?_
          refine AW.take 2 rfl (by kernel_rfl) (by kernel_rfl) (by kernel_rfl) (by repeat (first | exact PO.body | refine PO.then_ ?_ | refine PO.block ?_ | refine PO.noGoto ?_)) (Yl.move rfl) (fun _ s => Held.of s (by repeat (first | exact Sub.nil _ | refine Sub.cons1 (by repeat (first | exact Take.head _ _ | apply Take.tail)) ?_))) rfl ?_
          refine AW.take 3 rfl (by kernel_rfl) (by kernel_rfl) (by kernel_rfl) (by repeat (first | exact PO.body | refine PO.then_ ?_ | refine PO.block ?_ | refine PO.noGoto ?_)) (Yl.indexAt rfl rfl Tryd.underlying33 FactsLawAgain.ixs33 (by omega) (by omega)) (fun _ s => Held.of s (by repeat (first | exact Sub.nil _ | refine Sub.cons1 (by repeat (first | exact Take.head _ _ | apply Take.tail)) ?_))) rfl ?_
          refine AW.take 4 rfl (by kernel_rfl) (by kernel_rfl) (by kernel_rfl) (by repeat (first | exact PO.body | refine PO.then_ ?_ | refine PO.block ?_ | refine PO.noGoto ?_)) (Yl.loadSrc (v := .int .i64 x) rfl (hat) (by simpa [i64v] using hgi) FactsLawAgain.one3) (fun _ s => Held.of s (by repeat (first | exact Sub.nil _ | refine Sub.cons1 (by repeat (first | exact Take.head _ _ | apply Take.tail)) ?_))) rfl ?_
          refine AW.take 5 rfl (by kernel_rfl) (by kernel_rfl) (by kernel_rfl) (by repeat (first | exact PO.body | refine PO.then_ ?_ | refine PO.block ?_ | refine PO.noGoto ?_)) (Yl.rem (x.tmod 64) rfl rfl (by decide) (rfl)) (fun _ s => Held.of s (by repeat (first | exact Sub.nil _ | refine Sub.cons1 (by repeat (first | exact Take.head _ _ | apply Take.tail)) ?_))) rfl ?_
          refine AW.take 6 rfl (by kernel_rfl) (by kernel_rfl) (by kernel_rfl) (by repeat (first | exact PO.body | refine PO.then_ ?_ | refine PO.block ?_ | refine PO.noGoto ?_)) (Yl.add (x.tmod 64 + 64) rfl rfl (by first | rfl | exact wr64 (by omega) (by omega) (by omega))) (fun _ s => Held.of s (by repeat (first | exact Sub.nil _ | refine Sub.cons1 (by repeat (first | exact Take.head _ _ | apply Take.tail)) ?_))) rfl ?_
          refine AW.take 7 rfl (by kernel_rfl) (by kernel_rfl) (by kernel_rfl) (by repeat (first | exact PO.body | refine PO.then_ ?_ | refine PO.block ?_ | refine PO.noGoto ?_)) (Yl.rem ((k : Int)) rfl rfl (by decide) (hk)) (fun _ s => Held.of s (by repeat (first | exact Sub.nil _ | refine Sub.cons1 (by repeat (first | exact Take.head _ _ | apply Take.tail)) ?_))) rfl ?_
          refine AW.take 8 rfl (by kernel_rfl) (by kernel_rfl) (by kernel_rfl) (by repeat (first | exact PO.body | refine PO.then_ ?_ | refine PO.block ?_ | refine PO.noGoto ?_)) (Yl.move rfl) (fun _ s => Held.of s (by repeat (first | exact Sub.nil _ | refine Sub.cons1 (by repeat (first | exact Take.head _ _ | apply Take.tail)) ?_))) rfl ?_
          refine AW.take 9 rfl (by kernel_rfl) (by kernel_rfl) (by kernel_rfl) (by repeat (first | exact PO.body | refine PO.then_ ?_ | refine PO.block ?_ | refine PO.noGoto ?_)) (Yl.add ((i + 1 : Int)) rfl rfl (by first | rfl | exact wr64 (by omega) (by omega) (by omega))) (fun _ s => Held.of s (by repeat (first | exact Sub.nil _ | refine Sub.cons1 (by repeat (first | exact Take.head _ _ | apply Take.tail)) ?_))) rfl ?_
          refine AW.take 10 rfl (by kernel_rfl) (by kernel_rfl) (by kernel_rfl) (by repeat (first | exact PO.body | refine PO.then_ ?_ | refine PO.block ?_ | refine PO.noGoto ?_)) (Yl.convInt (((UInt8.ofNat (i + 1)).toNat : Int)) rfl Tryd.underlying3 Tryd.underlying5 ((by rw [wrap_u8, UInt8.toNat_ofNat', UInt8.toNat_ofNat']; omega))) (fun _ s => Held.of s (by repeat (first | exact Sub.nil _ | refine Sub.cons1 (by repeat (first | exact Take.head _ _ | apply Take.tail)) ?_))) rfl ?_
          refine AW.act 11 (by kernel_rfl) rfl ?_
          refine LW.call (law_Bytes W B (UInt8.ofNat (i + 1))) Tryd.func18 rfl FactsLawAgain.fname18 ⟨rfl, trivial⟩ (Take.none _) rfl ?_
          rintro _ _ ⟨b1, rfl, rfl⟩
          refine LW.nil ?_
          refine AW.back (fun _ s => Held.of s (by repeat (first | exact Sub.nil _ | refine Sub.cons1 (by repeat (first | exact Take.head _ _ | apply Take.tail)) ?_))) ?_
          refine AW.act 12 (by kernel_rfl) rfl ?_
          refine LW.call (dev_Write_ok W B p bn bw bl 64 s hs.ok k (by omega) hs.up [cr b1 5 ((bytes (UInt8.ofNat (i + 1))).map u8v)] (some ⟨b1, 0, none⟩) 64 (bytes (UInt8.ofNat (i + 1))) (bytes_len _) (Src.row (fun j v hj => by rw [Nat.zero_add]; exact hj))) Tryd.func19 rfl FactsLawAgain.fname19 ⟨rfl, rfl, rfl, trivial⟩ (Take.both (by repeat (first | exact Take.head _ _ | apply Take.tail)) (by repeat (first | exact Take.head _ _ | apply Take.tail))) rfl ?_
          rintro _ _ ⟨rfl, rfl⟩; refine LW.split2 ?_
          refine LW.nil ?_
          refine AW.back (fun _ s => Held.of s (by repeat (first | exact Sub.nil _ | refine Sub.cons1 (by repeat (first | exact Take.head _ _ | apply Take.tail)) ?_))) ?_
          refine AW.done (by kernel_rfl) ?_
          refine NW.then_ ?_
          refine CW.seq ?_
          have hs' : Tame (s.put k (bytes (UInt8.ofNat (i + 1)))).burn := hs.put (bytes_len _) ⟨UInt8.ofNat (i + 1), by rw [UInt8.toNat_ofNat']; omega, rfl⟩
          generalize (s.put k (bytes (UInt8.ofNat (i + 1)))).burn = s' at hs' ⊢
          refine CW.region ?_
          refine LW.move rfl rfl ?_
          refine LW.move rfl rfl ?_
          refine LW.indexAt rfl rfl Tryd.underlying33 FactsLawAgain.ixs33 (by omega) (by omega) rfl ?_
          refine LW.loadRd (v := .int .i64 x) rfl (hat.rd (Take.none _)) (by simpa [i64v] using hgi) FactsLawAgain.one3 rfl ?_
          refine LW.rem (x.tmod 5) rfl rfl (by decide) (rfl) rfl ?_
          refine LW.eql (x.tmod 5 == 0) rfl rfl (rfl) rfl ?_
          refine LW.nil ?_
          refine NW.then_ ?_
          refine CW.cond rfl (fun hc48 => ?_) (fun hc48 => ?_)
          · refine CW.region ?_
            refine LW.move rfl rfl ?_
            refine LW.call (dev_Flush W B p bn bw bl 64 s' hs'.ok) Tryd.func36 rfl FactsLawAgain.fname36 ⟨rfl, trivial⟩ (by repeat (first | exact Take.head _ _ | apply Take.tail)) rfl ?_
            rintro _ _ ⟨rfl, rfl⟩
            refine LW.nil ?_
            refine NW.block ?_
            refine NW.then_ ?_
            refine CW.region ?_
            refine LW.move rfl rfl ?_
            refine LW.add ((i + 1 : Int)) rfl rfl (by first | rfl | exact wr64 (by omega) (by omega) (by omega)) rfl ?_
            refine LW.assign rfl rfl ?_
            refine LW.nil ?_
            refine NW.meet ((i + 1, s'.flush 64)) ?j1 ?e1 ?h1
            case j1 => exact ⟨⟨hi20, hs'.flush⟩, by dsimp only; omega⟩
            case e1 => repeat (first | exact Env.Le.nil _ | refine Env.Le.cons rfl ?_)
            case h1 => repeat (first | exact Sub.heap_nil _ | exact Sub.refl _ | refine Sub.heap_cons (by repeat (first | exact Take.head _ _ | apply Take.tail)) ?_)
          · refine CW.skip ?_
            refine NW.block ?_
            refine NW.then_ ?_
            refine CW.region ?_
            refine LW.move rfl rfl ?_
            refine LW.add ((i + 1 : Int)) rfl rfl (by first | rfl | exact wr64 (by omega) (by omega) (by omega)) rfl ?_
            refine LW.assign rfl rfl ?_
            refine LW.nil ?_
            refine NW.meet ((i + 1, s')) ?j2 ?e2 ?h2
            case j2 => exact ⟨⟨hi20, hs'⟩, by dsimp only; omega⟩
            case e2 => repeat (first | exact Env.Le.nil _ | refine Env.Le.cons rfl ?_)
            case h2 => repeat (first | exact Sub.heap_nil _ | exact Sub.refl _ | refine Sub.heap_cons (by repeat (first | exact Take.head _ _ | apply Take.tail)) ?_)
        · refine CW.exit ?_
          refine NW.then_exit ?_
          refine NW.then_exit ?_
          refine NW.block_exit ?_
          refine NW.meet (s) ?j3 ?e3 ?h3
          case j3 => exact hs
          case e3 => repeat (first | exact Env.Le.nil _ | refine Env.Le.cons rfl ?_)
          case h3 => repeat (first | exact Sub.heap_nil _ | exact Sub.refl _ | refine Sub.heap_cons (by repeat (first | exact Take.head _ _ | apply Take.tail)) ?_)
      · refine LW.lss false rfl rfl (decide_eq_false (by omega)) rfl ?_
        refine LW.move rfl rfl ?_
        refine LW.off 24 rfl rfl rfl rfl ?_
        refine LW.off 24 rfl rfl rfl rfl ?_
        refine LW.pickF rfl rfl rfl ?_
        refine LW.nil ?_
        refine NW.then_ ?_
        refine CW.cond_false rfl ?_
        refine CW.exit ?_
        refine NW.then_exit ?_
        refine NW.then_exit ?_
        refine NW.block_exit ?_
        refine NW.meet (s) ?j4 ?e4 ?h4
        case j4 => exact hs
        case e4 => repeat (first | exact Env.Le.nil _ | refine Env.Le.cons rfl ?_)
        case h4 => repeat (first | exact Sub.heap_nil _ | exact Sub.refl _ | refine Sub.heap_cons (by repeat (first | exact Take.head _ _ | apply Take.tail)) ?_)
  case cut11_2 =>
    intro s hs
    refine CW.seq ?_
    refine CW.region ?_
    refine LW.move rfl rfl ?_
    refine LW.move rfl rfl ?_
    refine LW.call (dev_Crash W B p bn bw bl 64 s hs.ok [] A2 cp2 keep hsrc) Tryd.func21 rfl FactsLawAgain.fname21 ⟨rfl, rfl, trivial⟩ (Take.both (Take.none _) (by repeat (first | exact Take.head _ _ | apply Take.tail))) rfl ?_
    rintro _ _ ⟨ap, an, aw, al, rfl, rfl⟩; refine LW.split2 (LW.split2p ?_)
    refine LW.move rfl rfl ?_
    refine LW.move rfl rfl ?_
    refine LW.call (dev_Crash W B p bn bw bl 64 s hs.ok [] A2 cp2 keep hsrc) Tryd.func21 rfl FactsLawAgain.fname21 ⟨rfl, rfl, trivial⟩ (Take.both (Take.none _) (by repeat (first | exact Take.head _ _ | apply Take.tail))) rfl ?_
    rintro _ _ ⟨bp, bbn, bbw, bbl, rfl, rfl⟩; refine LW.split2 (LW.split2p ?_)
    refine LW.assign rfl rfl ?_
    refine LW.assign rfl rfl ?_
    refine LW.nil ?_
    refine NW.then_ ?_
    refine CW.seq ?_
    have hoka : (s.crash 64 keep).Ok 64 := hs.ok.crash keep
    have hla : (s.crash 64 keep).loose = List.replicate 64 false := rfl
    have hda : (s.crash 64 keep).down = false := rfl
    have hsma : ∀ x ∈ (s.crash 64 keep).now, Small x := hs.kept keep _ (Nat.le_refl _)
    generalize s.crash 64 keep = sa at hoka hla hda hsma ⊢
    refine CW.region ?_
    refine LW.move rfl rfl ?_
    refine LW.call (dev_Crash W B ap an aw al 64 sa hoka [] none 0 [] Src.nil) Tryd.func21 rfl FactsLawAgain.fname21 ⟨rfl, rfl, trivial⟩ (Take.both (Take.none _) (by repeat (first | exact Take.head _ _ | apply Take.tail))) rfl ?_
    rintro _ _ ⟨dp, dn, dw, dl, rfl, rfl⟩; refine LW.split2 (LW.split2p ?_)
    refine LW.assign rfl rfl ?_
    refine LW.nil ?_
    refine NW.then_ ?_
    refine CW.seq ?_
    have hcn : (sa.crash 64 []).now = sa.now := crash_now hla []
    have hokc : (sa.crash 64 []).Ok 64 := hoka.crash []
    generalize sa.crash 64 [] = sc at hcn hokc ⊢
    refine CW.region ?_
    refine LW.move rfl rfl ?_
    refine LW.call (law_Bytes W B 200) Tryd.func18 rfl FactsLawAgain.fname18 ⟨rfl, trivial⟩ (Take.none _) rfl ?_
    rintro _ _ ⟨b2, rfl, rfl⟩
    refine LW.call (dev_Write_ok W B bp bbn bbw bbl 64 sa hoka 7 (by decide) hda [cr b2 5 ((bytes 200).map u8v)] (some ⟨b2, 0, none⟩) 64 (bytes 200) (bytes_len _) (Src.row (fun j v hj => by rw [Nat.zero_add]; exact hj))) Tryd.func19 rfl FactsLawAgain.fname19 ⟨rfl, rfl, rfl, trivial⟩ (Take.both (by repeat (first | exact Take.head _ _ | apply Take.tail)) (by repeat (first | exact Take.head _ _ | apply Take.tail))) rfl ?_
    rintro _ _ ⟨rfl, rfl⟩
    refine LW.nil ?_
    refine NW.then_ ?_
    refine CW.seq ?_
    refine CW.seq ?_
    refine CW.region ?_
    refine LW.assign rfl rfl ?_
    refine LW.nil ?_
    refine NW.then_ ?_
    refine CW.block ?_
    refine CW.loop (fun i : Nat => [(11, .int .i64 (i : Int)), (10, .pointer (some ⟨dp, 0, none⟩)), (8, .pointer (some ⟨ap, 0, none⟩))]) (fun _ => [devC ap an aw al 64 sa, devC dp dn dw dl 64 sc]) (fun i => i ≤ 64) (fun i => 64 - i) 0 ?st15_j ?st15_e ?st15_h ?st15_r
    case st15_j => exact Nat.zero_le _
    case st15_e => repeat (first | exact Env.Le.nil _ | refine Env.Le.cons rfl ?_)
    case st15_h => repeat (first | exact Sub.heap_nil _ | exact Sub.refl _ | refine Sub.heap_cons (by repeat (first | exact Take.head _ _ | apply Take.tail)) ?_)
    case st15_r =>
      intro i hi
      refine CW.seq ?_
      refine CW.seq ?_
      refine CW.region ?_
      refine LW.move rfl rfl ?_
      refine LW.lss (decide ((i : Int) < 64)) rfl rfl (rfl) rfl ?_
      refine LW.nil ?_
      refine NW.then_ ?_
      refine CW.cond rfl (fun hc63 => ?_) (fun hc63 => ?_)
      · have hi64 : i < 64 := by have := of_decide_eq_true hc63; omega
        have hxg := hoka.now.getD hi64
        have hxl := hoka.now.get hxg
        have hsm : Small (sa.now.getD i []) := hsma _ (List.mem_of_getElem? hxg)
        refine CW.skip ?_
        refine NW.then_ ?_
        refine CW.seq ?_
        refine CW.block ?_
        refine CW.seq ?_
        refine CW.region ?_
        refine LW.move rfl rfl ?_
        refine LW.move rfl rfl ?_
        refine LW.call (dev_Read W B ap an aw al 64 sa hoka i hi64) Tryd.func20 rfl FactsLawAgain.fname20 ⟨rfl, rfl, trivial⟩ (by repeat (first | exact Take.head _ _ | apply Take.tail)) rfl ?_
        rintro _ _ ⟨q1, rfl, rfl⟩; refine LW.split1 ?_
        refine LW.move rfl rfl ?_
        refine LW.extract rfl rfl rfl ?_
        refine LW.extract rfl rfl rfl ?_
        refine LW.assign rfl rfl ?_
        refine LW.assign rfl rfl ?_
        refine LW.nil ?_
        refine NW.then_ ?_
        refine CW.seq ?_
        refine CW.region ?_
        by_cases hi7 : i = 7
        · refine LW.move rfl rfl ?_
          refine LW.move rfl rfl ?_
          refine LW.call (dev_Read W B dp dn dw dl 64 sc hokc i hi64) Tryd.func20 rfl FactsLawAgain.fname20 ⟨rfl, rfl, trivial⟩ (by repeat (first | exact Take.head _ _ | apply Take.tail)) rfl ?_
          rintro _ _ ⟨q2, rfl, rfl⟩; rw [hcn]; refine LW.split1 ?_
          refine LW.move rfl rfl ?_
          refine LW.extract rfl rfl rfl ?_
          refine LW.extract rfl rfl rfl ?_
          refine LW.assign rfl rfl ?_
          refine LW.assign rfl rfl ?_
          refine LW.nil ?_
          refine NW.then_ ?_
          refine CW.seq ?_
          generalize sa.now.getD i [] = x at hxg hxl hsm ⊢
          refine CW.drawH [cr q1 92 (x.map u8v), cr q2 92 (x.map u8v)] FactsLawAgain.mixed ?_
          refine AW.take 0 rfl (by kernel_rfl) (by kernel_rfl) (by kernel_rfl) (by repeat (first | exact PO.body | refine PO.then_ ?_ | refine PO.block ?_ | refine PO.noGoto ?_)) (Yl.move rfl) (fun _ s => Held.of s (by repeat (first | exact Sub.nil _ | refine Sub.cons1 (by repeat (first | exact Take.head _ _ | apply Take.tail)) ?_))) rfl ?_
          refine AW.take 1 rfl (by kernel_rfl) (by kernel_rfl) (by kernel_rfl) (by repeat (first | exact PO.body | refine PO.then_ ?_ | refine PO.block ?_ | refine PO.noGoto ?_)) (Yl.neq false rfl rfl (rfl)) (fun _ s => Held.of s (by repeat (first | exact Sub.nil _ | refine Sub.cons1 (by repeat (first | exact Take.head _ _ | apply Take.tail)) ?_))) rfl ?_
          refine AW.take 2 rfl (by kernel_rfl) (by kernel_rfl) (by kernel_rfl) (by repeat (first | exact PO.body | refine PO.then_ ?_ | refine PO.block ?_ | refine PO.noGoto ?_)) (Yl.move rfl) (fun _ s => Held.of s (by repeat (first | exact Sub.nil _ | refine Sub.cons1 (by repeat (first | exact Take.head _ _ | apply Take.tail)) ?_))) rfl ?_
          refine AW.takeOn 3 80 rfl rfl rfl (by kernel_rfl) (by kernel_rfl) (by kernel_rfl) (by repeat (first | exact PO.body | refine PO.then_ ?_ | refine PO.block ?_ | refine PO.noGoto ?_)) (Yl.move rfl) (fun _ s => Held.of s (by repeat (first | exact Sub.nil _ | refine Sub.cons1 (by repeat (first | exact Take.head _ _ | apply Take.tail)) ?_))) rfl ?_
          refine AW.takeOn 4 80 rfl rfl rfl (by kernel_rfl) (by kernel_rfl) (by kernel_rfl) (by repeat (first | exact PO.body | refine PO.then_ ?_ | refine PO.block ?_ | refine PO.noGoto ?_)) (Yl.neq false rfl rfl (rfl)) (fun _ s => Held.of s (by repeat (first | exact Sub.nil _ | refine Sub.cons1 (by repeat (first | exact Take.head _ _ | apply Take.tail)) ?_))) rfl ?_
          refine AW.take 5 rfl (by kernel_rfl) (by kernel_rfl) (by kernel_rfl) (by repeat (first | exact PO.body | refine PO.then_ ?_ | refine PO.block ?_ | refine PO.noGoto ?_)) (Yl.pickF rfl rfl) (fun _ s => Held.of s (by repeat (first | exact Sub.nil _ | refine Sub.cons1 (by repeat (first | exact Take.head _ _ | apply Take.tail)) ?_))) rfl ?_
          refine AW.take 6 rfl (by kernel_rfl) (by kernel_rfl) (by kernel_rfl) (by repeat (first | exact PO.body | refine PO.then_ ?_ | refine PO.block ?_ | refine PO.noGoto ?_)) (Yl.move rfl) (fun _ s => Held.of s (by repeat (first | exact Sub.nil _ | refine Sub.cons1 (by repeat (first | exact Take.head _ _ | apply Take.tail)) ?_))) rfl ?_
          refine AW.takeOn 7 84 rfl rfl rfl (by kernel_rfl) (by kernel_rfl) (by kernel_rfl) (by repeat (first | exact PO.body | refine PO.then_ ?_ | refine PO.block ?_ | refine PO.noGoto ?_)) (Yl.move rfl) (fun _ s => Held.of s (by repeat (first | exact Sub.nil _ | refine Sub.cons1 (by repeat (first | exact Take.head _ _ | apply Take.tail)) ?_))) rfl ?_
          refine AW.takeOn 8 84 rfl rfl rfl (by kernel_rfl) (by kernel_rfl) (by kernel_rfl) (by repeat (first | exact PO.body | refine PO.then_ ?_ | refine PO.block ?_ | refine PO.noGoto ?_)) (Yl.bytesRow (x) rfl Tryd.underlying26 Tryd.underlying5 Tryd.underlying9 (by repeat (first | exact List.Mem.head _ | refine List.Mem.tail _ ?_)) ((fun j v hj => by rw [Nat.zero_add]; exact hj)) (hxl.symm)) (fun _ s => Held.of s (by repeat (first | exact Sub.nil _ | refine Sub.cons1 (by repeat (first | exact Take.head _ _ | apply Take.tail)) ?_))) rfl ?_
          refine AW.takeOn 9 84 rfl rfl rfl (by kernel_rfl) (by kernel_rfl) (by kernel_rfl) (by repeat (first | exact PO.body | refine PO.then_ ?_ | refine PO.block ?_ | refine PO.noGoto ?_)) (Yl.move rfl) (fun _ s => Held.of s (by repeat (first | exact Sub.nil _ | refine Sub.cons1 (by repeat (first | exact Take.head _ _ | apply Take.tail)) ?_))) rfl ?_
          refine AW.takeOn 10 84 rfl rfl rfl (by kernel_rfl) (by kernel_rfl) (by kernel_rfl) (by repeat (first | exact PO.body | refine PO.then_ ?_ | refine PO.block ?_ | refine PO.noGoto ?_)) (Yl.bytesRow (x) rfl Tryd.underlying26 Tryd.underlying5 Tryd.underlying9 (by repeat (first | exact List.Mem.head _ | refine List.Mem.tail _ ?_)) ((fun j v hj => by rw [Nat.zero_add]; exact hj)) (hxl.symm)) (fun _ s => Held.of s (by repeat (first | exact Sub.nil _ | refine Sub.cons1 (by repeat (first | exact Take.head _ _ | apply Take.tail)) ?_))) rfl ?_
          refine AW.takeOn 11 84 rfl rfl rfl (by kernel_rfl) (by kernel_rfl) (by kernel_rfl) (by repeat (first | exact PO.body | refine PO.then_ ?_ | refine PO.block ?_ | refine PO.noGoto ?_)) (Yl.strNeq (false) rfl rfl Tryd.underlying9 (decide_eq_false (by simp))) (fun _ s => Held.of s (by repeat (first | exact Sub.nil _ | refine Sub.cons1 (by repeat (first | exact Take.head _ _ | apply Take.tail)) ?_))) rfl ?_
          refine AW.take 12 rfl (by kernel_rfl) (by kernel_rfl) (by kernel_rfl) (by repeat (first | exact PO.body | refine PO.then_ ?_ | refine PO.block ?_ | refine PO.noGoto ?_)) (Yl.pickF rfl rfl) (fun _ s => Held.of s (by repeat (first | exact Sub.nil _ | refine Sub.cons1 (by repeat (first | exact Take.head _ _ | apply Take.tail)) ?_))) rfl ?_
          refine AW.take 13 rfl (by kernel_rfl) (by kernel_rfl) (by kernel_rfl) (by repeat (first | exact PO.body | refine PO.then_ ?_ | refine PO.block ?_ | refine PO.noGoto ?_)) (Yl.move rfl) (fun _ s => Held.of s (by repeat (first | exact Sub.nil _ | refine Sub.cons1 (by repeat (first | exact Take.head _ _ | apply Take.tail)) ?_))) rfl ?_
          refine AW.takeOn 14 91 rfl rfl rfl (by kernel_rfl) (by kernel_rfl) (by kernel_rfl) (by repeat (first | exact PO.body | refine PO.then_ ?_ | refine PO.block ?_ | refine PO.noGoto ?_)) (Yl.move rfl) (fun _ s => Held.of s (by repeat (first | exact Sub.nil _ | refine Sub.cons1 (by repeat (first | exact Take.head _ _ | apply Take.tail)) ?_))) rfl ?_
          refine AW.takeOn 15 91 rfl rfl rfl (by kernel_rfl) (by kernel_rfl) (by kernel_rfl) (by repeat (first | exact PO.body | refine PO.then_ ?_ | refine PO.block ?_ | refine PO.noGoto ?_)) (Yl.eql true rfl rfl (beq_iff_eq.2 (by omega))) (fun _ s => Held.of s (by repeat (first | exact Sub.nil _ | refine Sub.cons1 (by repeat (first | exact Take.head _ _ | apply Take.tail)) ?_))) rfl ?_
          refine AW.takeOn 16 91 rfl rfl rfl (by kernel_rfl) (by kernel_rfl) (by kernel_rfl) (by repeat (first | exact PO.body | refine PO.then_ ?_ | refine PO.block ?_ | refine PO.noGoto ?_)) (Yl.move rfl) (fun _ s => Held.of s (by repeat (first | exact Sub.nil _ | refine Sub.cons1 (by repeat (first | exact Take.head _ _ | apply Take.tail)) ?_))) rfl ?_
          refine AW.takeOn 17 94 rfl rfl rfl (by kernel_rfl) (by kernel_rfl) (by kernel_rfl) (by repeat (first | exact PO.body | refine PO.then_ ?_ | refine PO.block ?_ | refine PO.noGoto ?_)) (Yl.move rfl) (fun _ s => Held.of s (by repeat (first | exact Sub.nil _ | refine Sub.cons1 (by repeat (first | exact Take.head _ _ | apply Take.tail)) ?_))) rfl ?_
          refine AW.takeOn 18 94 rfl rfl rfl (by kernel_rfl) (by kernel_rfl) (by kernel_rfl) (by repeat (first | exact PO.body | refine PO.then_ ?_ | refine PO.block ?_ | refine PO.noGoto ?_)) (Yl.bytesRow (x) rfl Tryd.underlying26 Tryd.underlying5 Tryd.underlying9 (by repeat (first | exact List.Mem.head _ | refine List.Mem.tail _ ?_)) ((fun j v hj => by rw [Nat.zero_add]; exact hj)) (hxl.symm)) (fun _ s => Held.of s (by repeat (first | exact Sub.nil _ | refine Sub.cons1 (by repeat (first | exact Take.head _ _ | apply Take.tail)) ?_))) rfl ?_
          refine AW.act 19 (by kernel_rfl) rfl ?_
          refine LW.on 94 rfl rfl ?_
          refine LW.call (law_Bytes W B 200) Tryd.func18 rfl FactsLawAgain.fname18 ⟨rfl, trivial⟩ (Take.none _) rfl ?_
          rintro _ _ ⟨b4, rfl, rfl⟩
          refine LW.nil ?_
          refine AW.back (fun _ s => Held.of s (by repeat (first | exact Sub.nil _ | refine Sub.cons1 (by repeat (first | exact Take.head _ _ | apply Take.tail)) ?_))) ?_
          refine AW.act 20 (by kernel_rfl) rfl ?_
          refine LW.on 94 rfl rfl ?_
          refine LW.bytesStr (bytes 200) rfl Tryd.underlying26 Tryd.underlying5 Tryd.underlying9 (RdAt.row (by repeat (first | exact Take.head _ _ | apply Take.tail)) (fun j v hj => by rw [Nat.zero_add]; exact hj)) ((bytes_len _).symm) rfl ?_
          refine LW.nil ?_
          refine AW.back (fun _ s => Held.of s (by repeat (first | exact Sub.nil _ | refine Sub.cons1 (by repeat (first | exact Take.head _ _ | apply Take.tail)) ?_))) ?_
          refine AW.takeOn 21 94 rfl rfl rfl (by kernel_rfl) (by kernel_rfl) (by kernel_rfl) (by repeat (first | exact PO.body | refine PO.then_ ?_ | refine PO.block ?_ | refine PO.noGoto ?_)) (Yl.strEql (false) rfl rfl Tryd.underlying9 ((by obtain ⟨v, hv, rfl⟩ := hsm; refine decide_eq_false (fun h => ?_); have := bytes_inj (by simpa using h); subst this; revert hv; decide))) (fun _ s => Held.of s (by repeat (first | exact Sub.nil _ | refine Sub.cons1 (by repeat (first | exact Take.head _ _ | apply Take.tail)) ?_))) rfl ?_
          refine AW.takeOn 22 91 rfl rfl rfl (by kernel_rfl) (by kernel_rfl) (by kernel_rfl) (by repeat (first | exact PO.body | refine PO.then_ ?_ | refine PO.block ?_ | refine PO.noGoto ?_)) (Yl.pickT rfl rfl) (fun _ s => Held.of s (by repeat (first | exact Sub.nil _ | refine Sub.cons1 (by repeat (first | exact Take.head _ _ | apply Take.tail)) ?_))) rfl ?_
          refine AW.take 23 rfl (by kernel_rfl) (by kernel_rfl) (by kernel_rfl) (by repeat (first | exact PO.body | refine PO.then_ ?_ | refine PO.block ?_ | refine PO.noGoto ?_)) (Yl.pickF rfl rfl) (fun _ s => Held.of s (by repeat (first | exact Sub.nil _ | refine Sub.cons1 (by repeat (first | exact Take.head _ _ | apply Take.tail)) ?_))) rfl ?_
          refine AW.done (by kernel_rfl) ?_
          refine NW.then_ ?_
          refine CW.cond_false rfl ?_
          refine CW.skip ?_
          refine NW.block ?_
          refine NW.then_ ?_
          refine CW.region ?_
          refine LW.move rfl rfl ?_
          refine LW.add ((i + 1 : Int)) rfl rfl (by first | rfl | exact wr64 (by omega) (by omega) (by omega)) rfl ?_
          refine LW.assign rfl rfl ?_
          refine LW.nil ?_
          refine NW.meet (i + 1) ?j5 ?e5 ?h5
          case j5 => exact ⟨hi64, by omega⟩
          case e5 => repeat (first | exact Env.Le.nil _ | refine Env.Le.cons rfl ?_)
          case h5 => repeat (first | exact Sub.heap_nil _ | exact Sub.refl _ | refine Sub.heap_cons (by repeat (first | exact Take.head _ _ | apply Take.tail)) ?_)
        · refine LW.move rfl rfl ?_
          refine LW.move rfl rfl ?_
          refine LW.call (dev_Read W B dp dn dw dl 64 sc hokc i hi64) Tryd.func20 rfl FactsLawAgain.fname20 ⟨rfl, rfl, trivial⟩ (by repeat (first | exact Take.head _ _ | apply Take.tail)) rfl ?_
          rintro _ _ ⟨q2, rfl, rfl⟩; rw [hcn]; refine LW.split1 ?_
          refine LW.move rfl rfl ?_
          refine LW.extract rfl rfl rfl ?_
          refine LW.extract rfl rfl rfl ?_
          refine LW.assign rfl rfl ?_
          refine LW.assign rfl rfl ?_
          refine LW.nil ?_
          refine NW.then_ ?_
          refine CW.seq ?_
          generalize sa.now.getD i [] = x at hxg hxl hsm ⊢
          refine CW.drawH [cr q1 92 (x.map u8v), cr q2 92 (x.map u8v)] FactsLawAgain.mixed ?_
          refine AW.take 0 rfl (by kernel_rfl) (by kernel_rfl) (by kernel_rfl) (by repeat (first | exact PO.body | refine PO.then_ ?_ | refine PO.block ?_ | refine PO.noGoto ?_)) (Yl.move rfl) (fun _ s => Held.of s (by repeat (first | exact Sub.nil _ | refine Sub.cons1 (by repeat (first | exact Take.head _ _ | apply Take.tail)) ?_))) rfl ?_
          refine AW.take 1 rfl (by kernel_rfl) (by kernel_rfl) (by kernel_rfl) (by repeat (first | exact PO.body | refine PO.then_ ?_ | refine PO.block ?_ | refine PO.noGoto ?_)) (Yl.neq false rfl rfl (rfl)) (fun _ s => Held.of s (by repeat (first | exact Sub.nil _ | refine Sub.cons1 (by repeat (first | exact Take.head _ _ | apply Take.tail)) ?_))) rfl ?_
          refine AW.take 2 rfl (by kernel_rfl) (by kernel_rfl) (by kernel_rfl) (by repeat (first | exact PO.body | refine PO.then_ ?_ | refine PO.block ?_ | refine PO.noGoto ?_)) (Yl.move rfl) (fun _ s => Held.of s (by repeat (first | exact Sub.nil _ | refine Sub.cons1 (by repeat (first | exact Take.head _ _ | apply Take.tail)) ?_))) rfl ?_
          refine AW.takeOn 3 80 rfl rfl rfl (by kernel_rfl) (by kernel_rfl) (by kernel_rfl) (by repeat (first | exact PO.body | refine PO.then_ ?_ | refine PO.block ?_ | refine PO.noGoto ?_)) (Yl.move rfl) (fun _ s => Held.of s (by repeat (first | exact Sub.nil _ | refine Sub.cons1 (by repeat (first | exact Take.head _ _ | apply Take.tail)) ?_))) rfl ?_
          refine AW.takeOn 4 80 rfl rfl rfl (by kernel_rfl) (by kernel_rfl) (by kernel_rfl) (by repeat (first | exact PO.body | refine PO.then_ ?_ | refine PO.block ?_ | refine PO.noGoto ?_)) (Yl.neq false rfl rfl (rfl)) (fun _ s => Held.of s (by repeat (first | exact Sub.nil _ | refine Sub.cons1 (by repeat (first | exact Take.head _ _ | apply Take.tail)) ?_))) rfl ?_
          refine AW.take 5 rfl (by kernel_rfl) (by kernel_rfl) (by kernel_rfl) (by repeat (first | exact PO.body | refine PO.then_ ?_ | refine PO.block ?_ | refine PO.noGoto ?_)) (Yl.pickF rfl rfl) (fun _ s => Held.of s (by repeat (first | exact Sub.nil _ | refine Sub.cons1 (by repeat (first | exact Take.head _ _ | apply Take.tail)) ?_))) rfl ?_
          refine AW.take 6 rfl (by kernel_rfl) (by kernel_rfl) (by kernel_rfl) (by repeat (first | exact PO.body | refine PO.then_ ?_ | refine PO.block ?_ | refine PO.noGoto ?_)) (Yl.move rfl) (fun _ s => Held.of s (by repeat (first | exact Sub.nil _ | refine Sub.cons1 (by repeat (first | exact Take.head _ _ | apply Take.tail)) ?_))) rfl ?_
          refine AW.takeOn 7 84 rfl rfl rfl (by kernel_rfl) (by kernel_rfl) (by kernel_rfl) (by repeat (first | exact PO.body | refine PO.then_ ?_ | refine PO.block ?_ | refine PO.noGoto ?_)) (Yl.move rfl) (fun _ s => Held.of s (by repeat (first | exact Sub.nil _ | refine Sub.cons1 (by repeat (first | exact Take.head _ _ | apply Take.tail)) ?_))) rfl ?_
          refine AW.takeOn 8 84 rfl rfl rfl (by kernel_rfl) (by kernel_rfl) (by kernel_rfl) (by repeat (first | exact PO.body | refine PO.then_ ?_ | refine PO.block ?_ | refine PO.noGoto ?_)) (Yl.bytesRow (x) rfl Tryd.underlying26 Tryd.underlying5 Tryd.underlying9 (by repeat (first | exact List.Mem.head _ | refine List.Mem.tail _ ?_)) ((fun j v hj => by rw [Nat.zero_add]; exact hj)) (hxl.symm)) (fun _ s => Held.of s (by repeat (first | exact Sub.nil _ | refine Sub.cons1 (by repeat (first | exact Take.head _ _ | apply Take.tail)) ?_))) rfl ?_
          refine AW.takeOn 9 84 rfl rfl rfl (by kernel_rfl) (by kernel_rfl) (by kernel_rfl) (by repeat (first | exact PO.body | refine PO.then_ ?_ | refine PO.block ?_ | refine PO.noGoto ?_)) (Yl.move rfl) (fun _ s => Held.of s (by repeat (first | exact Sub.nil _ | refine Sub.cons1 (by repeat (first | exact Take.head _ _ | apply Take.tail)) ?_))) rfl ?_
          refine AW.takeOn 10 84 rfl rfl rfl (by kernel_rfl) (by kernel_rfl) (by kernel_rfl) (by repeat (first | exact PO.body | refine PO.then_ ?_ | refine PO.block ?_ | refine PO.noGoto ?_)) (Yl.bytesRow (x) rfl Tryd.underlying26 Tryd.underlying5 Tryd.underlying9 (by repeat (first | exact List.Mem.head _ | refine List.Mem.tail _ ?_)) ((fun j v hj => by rw [Nat.zero_add]; exact hj)) (hxl.symm)) (fun _ s => Held.of s (by repeat (first | exact Sub.nil _ | refine Sub.cons1 (by repeat (first | exact Take.head _ _ | apply Take.tail)) ?_))) rfl ?_
          refine AW.takeOn 11 84 rfl rfl rfl (by kernel_rfl) (by kernel_rfl) (by kernel_rfl) (by repeat (first | exact PO.body | refine PO.then_ ?_ | refine PO.block ?_ | refine PO.noGoto ?_)) (Yl.strNeq (false) rfl rfl Tryd.underlying9 (decide_eq_false (by simp))) (fun _ s => Held.of s (by repeat (first | exact Sub.nil _ | refine Sub.cons1 (by repeat (first | exact Take.head _ _ | apply Take.tail)) ?_))) rfl ?_
          refine AW.take 12 rfl (by kernel_rfl) (by kernel_rfl) (by kernel_rfl) (by repeat (first | exact PO.body | refine PO.then_ ?_ | refine PO.block ?_ | refine PO.noGoto ?_)) (Yl.pickF rfl rfl) (fun _ s => Held.of s (by repeat (first | exact Sub.nil _ | refine Sub.cons1 (by repeat (first | exact Take.head _ _ | apply Take.tail)) ?_))) rfl ?_
          refine AW.take 13 rfl (by kernel_rfl) (by kernel_rfl) (by kernel_rfl) (by repeat (first | exact PO.body | refine PO.then_ ?_ | refine PO.block ?_ | refine PO.noGoto ?_)) (Yl.move rfl) (fun _ s => Held.of s (by repeat (first | exact Sub.nil _ | refine Sub.cons1 (by repeat (first | exact Take.head _ _ | apply Take.tail)) ?_))) rfl ?_
          refine AW.takeOn 14 91 rfl rfl rfl (by kernel_rfl) (by kernel_rfl) (by kernel_rfl) (by repeat (first | exact PO.body | refine PO.then_ ?_ | refine PO.block ?_ | refine PO.noGoto ?_)) (Yl.move rfl) (fun _ s => Held.of s (by repeat (first | exact Sub.nil _ | refine Sub.cons1 (by repeat (first | exact Take.head _ _ | apply Take.tail)) ?_))) rfl ?_
          refine AW.takeOn 15 91 rfl rfl rfl (by kernel_rfl) (by kernel_rfl) (by kernel_rfl) (by repeat (first | exact PO.body | refine PO.then_ ?_ | refine PO.block ?_ | refine PO.noGoto ?_)) (Yl.eql false rfl rfl (beq_eq_false_iff_ne.2 (by omega))) (fun _ s => Held.of s (by repeat (first | exact Sub.nil _ | refine Sub.cons1 (by repeat (first | exact Take.head _ _ | apply Take.tail)) ?_))) rfl ?_
          refine AW.takeOn 16 91 rfl rfl rfl (by kernel_rfl) (by kernel_rfl) (by kernel_rfl) (by repeat (first | exact PO.body | refine PO.then_ ?_ | refine PO.block ?_ | refine PO.noGoto ?_)) (Yl.move rfl) (fun _ s => Held.of s (by repeat (first | exact Sub.nil _ | refine Sub.cons1 (by repeat (first | exact Take.head _ _ | apply Take.tail)) ?_))) rfl ?_
          refine AW.takeOff 17 94 rfl rfl rfl rfl (by kernel_rfl) (by kernel_rfl) (by kernel_rfl) (by repeat (first | exact PO.body | refine PO.then_ ?_ | refine PO.block ?_ | refine PO.noGoto ?_)) (fun _ s => Held.of s (by repeat (first | exact Sub.nil _ | refine Sub.cons1 (by repeat (first | exact Take.head _ _ | apply Take.tail)) ?_))) rfl ?_
          refine AW.takeOff 18 94 rfl rfl rfl rfl (by kernel_rfl) (by kernel_rfl) (by kernel_rfl) (by repeat (first | exact PO.body | refine PO.then_ ?_ | refine PO.block ?_ | refine PO.noGoto ?_)) (fun _ s => Held.of s (by repeat (first | exact Sub.nil _ | refine Sub.cons1 (by repeat (first | exact Take.head _ _ | apply Take.tail)) ?_))) rfl ?_
          refine AW.act 19 (by kernel_rfl) rfl ?_
          refine LW.off 94 rfl rfl rfl rfl ?_
          refine LW.nil ?_
          refine AW.back (fun _ s => Held.of s (by repeat (first | exact Sub.nil _ | refine Sub.cons1 (by repeat (first | exact Take.head _ _ | apply Take.tail)) ?_))) ?_
          refine AW.act 20 (by kernel_rfl) rfl ?_
          refine LW.off 94 rfl rfl rfl rfl ?_
          refine LW.nil ?_
          refine AW.back (fun _ s => Held.of s (by repeat (first | exact Sub.nil _ | refine Sub.cons1 (by repeat (first | exact Take.head _ _ | apply Take.tail)) ?_))) ?_
          refine AW.takeOff 21 94 rfl rfl rfl rfl (by kernel_rfl) (by kernel_rfl) (by kernel_rfl) (by repeat (first | exact PO.body | refine PO.then_ ?_ | refine PO.block ?_ | refine PO.noGoto ?_)) (fun _ s => Held.of s (by repeat (first | exact Sub.nil _ | refine Sub.cons1 (by repeat (first | exact Take.head _ _ | apply Take.tail)) ?_))) rfl ?_
          refine AW.takeOn 22 91 rfl rfl rfl (by kernel_rfl) (by kernel_rfl) (by kernel_rfl) (by repeat (first | exact PO.body | refine PO.then_ ?_ | refine PO.block ?_ | refine PO.noGoto ?_)) (Yl.pickF rfl rfl) (fun _ s => Held.of s (by repeat (first | exact Sub.nil _ | refine Sub.cons1 (by repeat (first | exact Take.head _ _ | apply Take.tail)) ?_))) rfl ?_
          refine AW.take 23 rfl (by kernel_rfl) (by kernel_rfl) (by kernel_rfl) (by repeat (first | exact PO.body | refine PO.then_ ?_ | refine PO.block ?_ | refine PO.noGoto ?_)) (Yl.pickF rfl rfl) (fun _ s => Held.of s (by repeat (first | exact Sub.nil _ | refine Sub.cons1 (by repeat (first | exact Take.head _ _ | apply Take.tail)) ?_))) rfl ?_
          refine AW.done (by kernel_rfl) ?_
          refine NW.then_ ?_
          refine CW.cond_false rfl ?_
          refine CW.skip ?_
          refine NW.block ?_
          refine NW.then_ ?_
          refine CW.region ?_
          refine LW.move rfl rfl ?_
          refine LW.add ((i + 1 : Int)) rfl rfl (by first | rfl | exact wr64 (by omega) (by omega) (by omega)) rfl ?_
          refine LW.assign rfl rfl ?_
          refine LW.nil ?_
          refine NW.meet (i + 1) ?j6 ?e6 ?h6
          case j6 => exact ⟨hi64, by omega⟩
          case e6 => repeat (first | exact Env.Le.nil _ | refine Env.Le.cons rfl ?_)
          case h6 => repeat (first | exact Sub.heap_nil _ | exact Sub.refl _ | refine Sub.heap_cons (by repeat (first | exact Take.head _ _ | apply Take.tail)) ?_)
      · refine CW.exit ?_
        refine NW.then_exit ?_
        refine NW.then_exit ?_
        refine NW.block_exit ?_
        refine NW.then_ ?_
        refine CW.seq ?_
        refine CW.region ?_
        refine LW.assign rfl rfl ?_
        refine LW.nil ?_
        refine NW.then_ ?_
        refine CW.ret ?_
        refine NW.ret1 rfl rfl ⟨_, ⟨rfl, rfl⟩, ?_⟩
        exact Sub.nil _
end
end Go.Proofs.YtmgpldgldgdenaaDoor
