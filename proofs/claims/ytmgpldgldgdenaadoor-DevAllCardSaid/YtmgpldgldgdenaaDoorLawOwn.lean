/-
  law1.Bytes; DevOwn, walked.
-/
import Derived.Test.YtmgpldgldgdenaaDoorBegun
namespace Go.Proofs.YtmgpldgldgdenaaDoor
open Go.RowKit
namespace FactsLawOwn
theorem fname16 : (Tryd.f16.name == "runtime.NumGoroutine") = false := by kernel_rfl
theorem fname17 : (Tryd.f17.name == "runtime.NumGoroutine") = false := by kernel_rfl
theorem fname18 : (Tryd.f18.name == "runtime.NumGoroutine") = false := by kernel_rfl
theorem fname19 : (Tryd.f19.name == "runtime.NumGoroutine") = false := by kernel_rfl
theorem fname20 : (Tryd.f20.name == "runtime.NumGoroutine") = false := by kernel_rfl
theorem fname21 : (Tryd.f21.name == "runtime.NumGoroutine") = false := by kernel_rfl
theorem fname22 : (Tryd.f22.name == "runtime.NumGoroutine") = false := by kernel_rfl
theorem fname23 : (Tryd.f23.name == "runtime.NumGoroutine") = false := by kernel_rfl
theorem info5 : (Tryd.prog.info? 5).map (fun i => (i.zero, i.size, i.bytes)) = some (some (.int .u8 0), 1, 1) := by kernel_rfl
theorem ixs26 : (Tryd.prog.info? 5).map (·.size) = some 1 := by kernel_rfl
theorem ixs33 : (Tryd.prog.info? 3).map (·.size) = some 1 := by kernel_rfl
theorem mixed : Tryd.prog.follows .mixedOrders = true := by kernel_rfl
theorem one3 : oneB Tryd.prog 3 = true := by kernel_rfl
theorem one5 : oneB Tryd.prog 5 = true := by kernel_rfl
theorem sz5 : (Tryd.prog.info? 5).map (·.size) = some 1 := by kernel_rfl
end FactsLawOwn
theorem rep_set (k : Nat) (hk : k < 64) (x : UInt8) : ((List.replicate k x ++ List.replicate (64 - k) 0).map u8v).set k (u8v x) = (List.replicate (k + 1) x ++ List.replicate (64 - (k + 1)) 0).map u8v := by
  rw [← List.map_set]
  congr 1
  rw [List.set_append, if_neg (by simp), List.length_replicate, Nat.sub_self, show 64 - k = (64 - (k + 1)) + 1 by omega, List.replicate_succ, List.set_cons_zero, List.replicate_succ']
  simp
def bytes (x : UInt8) : List UInt8 := List.replicate 64 x
theorem bytes_len (x : UInt8) : (bytes x).length = 64 := by simp [bytes]
theorem u8_inc (x : UInt8) : IntKind.u8.wrap ((x.toNat : Int) + 1) = ((x + 1).toNat : Int) := by
  rw [wrap_u8, UInt8.toNat_ofNat', UInt8.toNat_add]
  have := x.toNat_lt
  simp
  omega
theorem loose_one : ∀ k : Fin 64, (List.range 64).filter (fun i => ((List.replicate 64 false).set k.1 true).getD i false) = [k.1] := by decide +kernel
section
variable (W : World) (B : Nat)
theorem law_Bytes (x : UInt8) : Spec Tryd.prog W B 18 [u8v x] [] (fun v post => ∃ b, v = .slice (some ⟨b, 0, none⟩) 64 64 ∧ post = [cr b 5 ((bytes x).map u8v)]) := by
  refine Spec.enter ([]) Tryd.func18 rfl Tryd.ntmps18 rfl (by first | rfl | simp) (fun w0 => ?_)
  refine CW.seq ?_
  refine CW.region ?_
  refine LW.assign rfl rfl ?_
  refine LW.nil ?_
  refine NW.then_ ?_
  refine CW.seq ?_
  refine CW.region ?_
  refine LW.make (64) (64) ((List.replicate 0 x ++ List.replicate (64 - 0) 0).map u8v) rfl rfl (by first | rfl | omega) (by first | rfl | omega) Tryd.underlying26 FactsLawOwn.info5 (by omega) (by omega) (by omega) (by simp only [List.replicate_zero, List.nil_append, Nat.sub_zero]; rw [List.map_replicate]; exact madeCells_rep _ _ _ (by intro x hx; simp [Value.cells] at hx; exact hx) (by simp [Value.cells])) rfl ?_
  intro bm5
  refine LW.assign rfl rfl ?_
  refine LW.nil ?_
  refine NW.then_ ?_
  refine CW.seq ?_
  refine CW.seq ?_
  refine CW.region ?_
  refine LW.move rfl rfl ?_
  refine LW.lenSlice rfl Tryd.underlying26 rfl ?_
  refine LW.move rfl rfl ?_
  refine LW.nil ?_
  refine NW.then_ ?_
  refine CW.block ?_
  refine CW.loop (fun k : Nat => [(8, .int .i64 (k : Int)), (7, .int .i64 64), (3, .slice (some ⟨bm5, 0, none⟩) 64 64), (0, u8v x)]) (fun k => [[cr bm5 5 ((List.replicate k x ++ List.replicate (64 - k) 0).map u8v)]]) (fun k => k ≤ 64) (fun k => 64 - k) 0 ?st3_j ?st3_e ?st3_h ?st3_r
  case st3_j => exact Nat.zero_le _
  case st3_e => repeat (first | exact Env.Le.nil _ | refine Env.Le.cons rfl ?_)
  case st3_h => repeat (first | exact Sub.heap_nil _ | exact Sub.refl _ | refine Sub.heap_cons (by repeat (first | exact Take.head _ _ | apply Take.tail)) ?_)
  case st3_r =>
    intro k hk
    refine CW.seq ?_
    refine CW.region ?_
    refine LW.lss (decide ((k : Int) < 64)) rfl rfl (rfl) rfl ?_
    refine LW.nil ?_
    refine NW.then_ ?_
    refine CW.seq ?_
    refine CW.cond rfl (fun hc9 => ?_) (fun hc9 => ?_)
    · have hkn : k < 64 := by have := of_decide_eq_true hc9; omega
      refine CW.skip ?_
      refine NW.then_ ?_
      refine CW.seq ?_
      refine CW.block ?_
      refine CW.seq ?_
      refine CW.region ?_
      refine LW.move rfl rfl ?_
      refine LW.assign rfl rfl ?_
      refine LW.nil ?_
      refine NW.then_ ?_
      refine CW.region ?_
      refine LW.move rfl rfl ?_
      refine LW.move rfl rfl ?_
      refine LW.move rfl rfl ?_
      refine LW.indexAddr (k) rfl rfl Tryd.underlying26 FactsLawOwn.ixs26 (by omega) (by omega) (by simp) rfl ?_
      refine LW.store rfl rfl (by repeat (first | exact Take.head _ _ | apply Take.tail)) (by rw [List.length_map, List.length_append, List.length_replicate, List.length_replicate]; omega) FactsLawOwn.sz5 (rfl) ?_
      rw [rep_set k hkn x]
      refine LW.nil ?_
      refine NW.block ?_
      refine NW.then_ ?_
      refine CW.region ?_
      refine LW.add ((k + 1 : Int)) rfl rfl (by first | rfl | exact wr64 (by omega) (by omega) (by omega)) rfl ?_
      refine LW.move rfl rfl ?_
      refine LW.nil ?_
      refine NW.meet (k + 1) ?j1 ?e1 ?h1
      case j1 => exact ⟨hkn, by omega⟩
      case e1 => repeat (first | exact Env.Le.nil _ | refine Env.Le.cons rfl ?_)
      case h1 => repeat (first | exact Sub.heap_nil _ | exact Sub.refl _ | refine Sub.heap_cons (by repeat (first | exact Take.head _ _ | apply Take.tail)) ?_)
    · have hkn : k = 64 := by have := of_decide_eq_false hc9; omega
      subst hkn
      refine CW.exit ?_
      refine NW.then_exit ?_
      refine NW.then_exit ?_
      refine NW.block_exit ?_
      refine NW.then_ ?_
      refine CW.seq ?_
      refine CW.region ?_
      refine LW.move rfl rfl ?_
      refine LW.assign rfl rfl ?_
      refine LW.nil ?_
      refine NW.then_ ?_
      refine CW.ret ?_
      refine NW.ret1 rfl rfl ⟨_, ⟨bm5, rfl, rfl⟩, ?_⟩
      exact Sub.one (by repeat (first | exact Take.head _ _ | apply Take.tail))

theorem law_DevOwn (h0 : 0 < B) (hg : W.cell? ⟨0, 0, none⟩ = some (rty 80)) (i : Int) (x : UInt8) (A : Option Addr) (cp : Nat) (keep : List Bool) (hsrc : Src W B [] A (keep.map .bool)) :
    Spec Tryd.prog W B 3 [.int .i64 i, u8v x, .slice A keep.length cp] [] (fun v post => v = .bool true ∧ post = []) := by
  obtain ⟨k, hk, hk64⟩ : ∃ k : Nat, (i.tmod 64 + 64).tmod 64 = (k : Int) ∧ k < 64 := by
    have h1 := Int.tmod_lt_of_pos i (by decide : (0 : Int) < 64)
    have h2 : -64 < i.tmod 64 := by
      have := Int.lt_tmod_of_pos i (by decide : (0 : Int) < 64)
      omega
    have h3 := Int.tmod_lt_of_pos (i.tmod 64 + 64) (by decide : (0 : Int) < 64)
    have h4 := Int.tmod_nonneg 64 (show (0 : Int) ≤ i.tmod 64 + 64 by omega)
    exact ⟨((i.tmod 64 + 64).tmod 64).toNat, by omega, by omega⟩
  have hi1 := Int.tmod_lt_of_pos i (by decide : (0 : Int) < 64)
  have hi2 := Int.lt_tmod_of_pos i (by decide : (0 : Int) < 64)
  have hk0 : (DevS.zero 64).Ok 64 := DevS.Ok.zero (by decide) (by decide)
  have hbl := bytes_len x
  have hk1 : ((DevS.zero 64).put k (bytes x)).Ok 64 := hk0.put hbl
  have hrd : ((DevS.zero 64).put k (bytes x)).now.getD k [] = bytes x := by simp [DevS.put, DevS.zero, List.getD, hk64]
  have hll : looseTo ((DevS.zero 64).put k (bytes x)) 64 = [k] := loose_one ⟨k, hk64⟩
  refine Spec.enter ([]) Tryd.func3 rfl Tryd.ntmps3 rfl (by first | rfl | simp) (fun w0 => ?_)
  refine CW.seq ?_
  refine CW.region ?_
  refine LW.assign rfl rfl ?_
  refine LW.nil ?_
  refine NW.then_ ?_
  refine CW.seq ?_
  refine CW.region ?_
  refine LW.call (law_begun W B h0 hg) Tryd.func16 rfl FactsLawOwn.fname16 trivial (Take.none _) rfl ?_
  rintro _ _ ⟨rfl, rfl⟩
  refine LW.assign rfl rfl ?_
  refine LW.nil ?_
  refine NW.then_ ?_
  refine CW.seq ?_
  refine CW.seq ?_
  refine CW.region ?_
  refine LW.move rfl rfl ?_
  refine LW.not (false) rfl (rfl) rfl ?_
  refine LW.nil ?_
  refine NW.then_ ?_
  refine CW.cond_false rfl ?_
  refine CW.skip ?_
  refine NW.then_ ?_
  refine CW.seq ?_
  refine CW.region ?_
  refine LW.call (dev_New W B 64 (by decide) (by decide)) Tryd.func17 rfl FactsLawOwn.fname17 ⟨rfl, trivial⟩ (Take.none _) rfl ?_
  rintro _ _ ⟨p, bn, bw, bl, rfl, rfl⟩
  refine LW.assign rfl rfl ?_
  refine LW.nil ?_
  refine NW.then_ ?_
  refine CW.seq ?_
  refine CW.region ?_
  refine LW.move rfl rfl ?_
  refine LW.rem (i.tmod 64) rfl rfl (by decide) (rfl) rfl ?_
  refine LW.add (i.tmod 64 + 64) rfl rfl (by first | rfl | exact wr64 (by omega) (by omega) (by omega)) rfl ?_
  refine LW.rem ((k : Int)) rfl rfl (by decide) (hk) rfl ?_
  refine LW.assign rfl rfl ?_
  refine LW.nil ?_
  refine NW.then_ ?_
  refine CW.seq ?_
  refine CW.region ?_
  refine LW.move rfl rfl ?_
  refine LW.call (law_Bytes W B x) Tryd.func18 rfl FactsLawOwn.fname18 ⟨rfl, trivial⟩ (Take.none _) rfl ?_
  rintro _ _ ⟨b1, rfl, rfl⟩
  refine LW.assign rfl rfl ?_
  refine LW.nil ?_
  refine NW.then_ ?_
  refine CW.seq ?_
  refine CW.seq ?_
  refine CW.region ?_
  refine LW.move rfl rfl ?_
  refine LW.move rfl rfl ?_
  refine LW.move rfl rfl ?_
  refine LW.call (dev_Write_ok W B p bn bw bl 64 (DevS.zero 64) hk0 k hk64 rfl [cr b1 5 ((bytes x).map u8v)] (some ⟨b1, 0, none⟩) 64 (bytes x) hbl (Src.row (fun j v hj => by rw [Nat.zero_add]; exact hj))) Tryd.func19 rfl FactsLawOwn.fname19 ⟨rfl, rfl, rfl, trivial⟩ (Take.both (by repeat (first | exact Take.head _ _ | apply Take.tail)) (by repeat (first | exact Take.head _ _ | apply Take.tail))) rfl ?_
  rintro _ _ ⟨rfl, rfl⟩; refine LW.split2 ?_
  refine LW.neq false rfl rfl (rfl) rfl ?_
  refine LW.nil ?_
  refine NW.then_ ?_
  refine CW.cond_false rfl ?_
  refine CW.skip ?_
  refine NW.then_ ?_
  refine CW.seq ?_
  refine CW.region ?_
  refine LW.move rfl rfl ?_
  refine LW.indexAddr (0) rfl rfl Tryd.underlying26 FactsLawOwn.ixs26 (by decide) (by decide) (rfl) rfl ?_
  refine LW.load (v := u8v x) rfl (by repeat (first | exact Take.head _ _ | apply Take.tail)) (rfl) FactsLawOwn.one5 rfl ?_
  refine LW.add _ rfl rfl rfl rfl ?_
  refine LW.indexAddr (0) rfl rfl Tryd.underlying26 FactsLawOwn.ixs26 (by decide) (by decide) (rfl) rfl ?_
  refine LW.store rfl rfl (by repeat (first | exact Take.head _ _ | apply Take.tail)) (by rw [List.length_map, hbl]; decide) FactsLawOwn.sz5 (rfl) ?_
  refine LW.nil ?_
  refine NW.then_ ?_
  refine CW.seq ?_
  refine CW.region ?_
  refine LW.move rfl rfl ?_
  refine LW.move rfl rfl ?_
  refine LW.call (dev_Read W B p bn bw bl 64 ((DevS.zero 64).put k (bytes x)) hk1 k hk64) Tryd.func20 rfl FactsLawOwn.fname20 ⟨rfl, rfl, trivial⟩ (by repeat (first | exact Take.head _ _ | apply Take.tail)) rfl ?_
  rintro _ _ ⟨q1, rfl, rfl⟩; rw [hrd]; refine LW.split1 ?_
  refine LW.move rfl rfl ?_
  refine LW.extract rfl rfl rfl ?_
  refine LW.extract rfl rfl rfl ?_
  refine LW.assign rfl rfl ?_
  refine LW.assign rfl rfl ?_
  refine LW.nil ?_
  refine NW.then_ ?_
  refine CW.seq ?_
  refine CW.seq ?_
  refine CW.drawH [cr q1 92 ((bytes x).map u8v)] FactsLawOwn.mixed ?_
  refine AW.takes [0, 1, 2] 3 (by kernel_rfl) (by kernel_rfl) rfl (by repeat (first | exact PO.body | refine PO.then_ ?_ | refine PO.block ?_ | refine PO.noGoto ?_)) (fun _ s => Held.of s (by repeat (first | exact Sub.nil _ | refine Sub.cons1 (by repeat (first | exact Take.head _ _ | apply Take.tail)) ?_))) ?_
  refine TW.take rfl (Yl.move rfl) rfl ?_
  refine TW.take rfl (Yl.bytesRow (bytes x) rfl Tryd.underlying26 Tryd.underlying5 Tryd.underlying9 (by repeat (first | exact List.Mem.head _ | refine List.Mem.tail _ ?_)) ((fun j v hj => by rw [Nat.zero_add]; exact hj)) (hbl.symm)) rfl ?_
  refine TW.take rfl (Yl.move rfl) rfl ?_
  refine TW.nil ?_
  refine AW.act 3 (by kernel_rfl) rfl ?_
  refine LW.call (law_Bytes W B x) Tryd.func18 rfl FactsLawOwn.fname18 ⟨rfl, trivial⟩ (Take.none _) rfl ?_
  rintro _ _ ⟨b2, rfl, rfl⟩
  refine LW.nil ?_
  refine AW.back (fun _ s => Held.of s (by repeat (first | exact Sub.nil _ | refine Sub.cons1 (by repeat (first | exact Take.head _ _ | apply Take.tail)) ?_))) ?_
  refine AW.act 4 (by kernel_rfl) rfl ?_
  refine LW.bytesStr (bytes x) rfl Tryd.underlying26 Tryd.underlying5 Tryd.underlying9 (RdAt.row (by repeat (first | exact Take.head _ _ | apply Take.tail)) (fun j v hj => by rw [Nat.zero_add]; exact hj)) (hbl.symm) rfl ?_
  refine LW.nil ?_
  refine AW.back (fun _ s => Held.of s (by repeat (first | exact Sub.nil _ | refine Sub.cons1 (by repeat (first | exact Take.head _ _ | apply Take.tail)) ?_))) ?_
  refine AW.takes [5] 0 (by kernel_rfl) (by kernel_rfl) rfl (by repeat (first | exact PO.body | refine PO.then_ ?_ | refine PO.block ?_ | refine PO.noGoto ?_)) (fun _ s => Held.of s (by repeat (first | exact Sub.nil _ | refine Sub.cons1 (by repeat (first | exact Take.head _ _ | apply Take.tail)) ?_))) ?_
  refine TW.take rfl (Yl.strNeq (false) rfl rfl Tryd.underlying9 (decide_eq_false (by simp))) rfl ?_
  refine TW.nil ?_
  refine AW.done (by kernel_rfl) ?_
  refine NW.then_ ?_
  refine CW.cond_false rfl ?_
  refine CW.skip ?_
  refine NW.then_ ?_
  refine CW.seq ?_
  refine CW.region ?_
  refine LW.move rfl rfl ?_
  refine LW.indexAddr (0) rfl rfl Tryd.underlying26 FactsLawOwn.ixs26 (by decide) (by decide) (rfl) rfl ?_
  refine LW.load (v := u8v x) rfl (by repeat (first | exact Take.head _ _ | apply Take.tail)) (rfl) FactsLawOwn.one5 rfl ?_
  refine LW.add _ rfl rfl rfl rfl ?_
  refine LW.indexAddr (0) rfl rfl Tryd.underlying26 FactsLawOwn.ixs26 (by decide) (by decide) (rfl) rfl ?_
  refine LW.store rfl rfl (by repeat (first | exact Take.head _ _ | apply Take.tail)) (by rw [List.length_map, hbl]; decide) FactsLawOwn.sz5 (rfl) ?_
  refine LW.nil ?_
  refine NW.then_ ?_
  refine CW.seq ?_
  refine CW.region ?_
  refine LW.move rfl rfl ?_
  refine LW.move rfl rfl ?_
  refine LW.call (dev_Crash W B p bn bw bl 64 ((DevS.zero 64).put k (bytes x)) hk1 [] A cp keep hsrc) Tryd.func21 rfl FactsLawOwn.fname21 ⟨rfl, rfl, trivial⟩ (Take.both (Take.none _) (by repeat (first | exact Take.head _ _ | apply Take.tail))) rfl ?_
  rintro _ _ ⟨cp', cn, cw, cl, rfl, rfl⟩; refine LW.split2 (LW.split2p ?_)
  refine LW.assign rfl rfl ?_
  refine LW.nil ?_
  refine NW.then_ ?_
  refine CW.seq ?_
  refine CW.region ?_
  refine LW.move rfl rfl ?_
  refine LW.move rfl rfl ?_
  refine LW.move rfl rfl ?_
  refine LW.add (((x + 1).toNat : Int)) rfl rfl (u8_inc x) rfl ?_
  refine LW.call (law_Bytes W B (x + 1)) Tryd.func18 rfl FactsLawOwn.fname18 ⟨rfl, trivial⟩ (Take.none _) rfl ?_
  rintro _ _ ⟨b3, rfl, rfl⟩
  refine LW.call (dev_Write_ok W B cp' cn cw cl 64 _ (hk1.crash keep) k hk64 rfl [cr b3 5 ((bytes (x + 1)).map u8v)] (some ⟨b3, 0, none⟩) 64 (bytes (x + 1)) (bytes_len _) (Src.row (fun j v hj => by rw [Nat.zero_add]; exact hj))) Tryd.func19 rfl FactsLawOwn.fname19 ⟨rfl, rfl, rfl, trivial⟩ (Take.both (by repeat (first | exact Take.head _ _ | apply Take.tail)) (by repeat (first | exact Take.head _ _ | apply Take.tail))) rfl ?_
  rintro _ _ ⟨rfl, rfl⟩
  refine LW.nil ?_
  refine NW.then_ ?_
  refine CW.seq ?_
  refine CW.region ?_
  refine LW.move rfl rfl ?_
  refine LW.move rfl rfl ?_
  refine LW.call (dev_Read W B p bn bw bl 64 ((DevS.zero 64).put k (bytes x)) hk1 k hk64) Tryd.func20 rfl FactsLawOwn.fname20 ⟨rfl, rfl, trivial⟩ (by repeat (first | exact Take.head _ _ | apply Take.tail)) rfl ?_
  rintro _ _ ⟨q2, rfl, rfl⟩; rw [hrd]; refine LW.split1 ?_
  refine LW.move rfl rfl ?_
  refine LW.extract rfl rfl rfl ?_
  refine LW.extract rfl rfl rfl ?_
  refine LW.assign rfl rfl ?_
  refine LW.assign rfl rfl ?_
  refine LW.nil ?_
  refine NW.then_ ?_
  refine CW.seq ?_
  refine CW.region ?_
  refine LW.move rfl rfl ?_
  refine LW.call (dev_Loose W B p bn bw bl 64 ((DevS.zero 64).put k (bytes x)) hk1) Tryd.func22 rfl FactsLawOwn.fname22 ⟨rfl, trivial⟩ (by repeat (first | exact Take.head _ _ | apply Take.tail)) rfl ?_
  rw [hll]; rintro v _ ⟨ch, ho, rfl⟩; obtain ⟨A2, cp2, rfl, hA2, hc2⟩ := ho.val; refine LW.split2 ?_
  refine LW.assign rfl rfl ?_
  refine LW.nil ?_
  refine NW.then_ ?_
  refine CW.seq ?_
  obtain ⟨a2, rfl⟩ : ∃ a, A2 = some a := by
    cases A2 with
    | none => exact absurd (hA2 rfl) (by simp)
    | some a => exact ⟨a, rfl⟩
  refine CW.drawH [cr q2 92 ((bytes x).map u8v)] FactsLawOwn.mixed ?_
  refine AW.takes [0, 1, 2, 3, 4, 5] 22 (by kernel_rfl) (by kernel_rfl) rfl (by repeat (first | exact PO.body | refine PO.then_ ?_ | refine PO.block ?_ | refine PO.noGoto ?_)) (fun _ s => Held.of s (by repeat (first | exact Sub.nil _ | refine Sub.cons1 (by repeat (first | exact Take.head _ _ | apply Take.tail)) ?_))) ?_
  refine TW.take rfl (Yl.move rfl) rfl ?_
  refine TW.take rfl (Yl.eql true rfl rfl (rfl)) rfl ?_
  refine TW.take rfl (Yl.move rfl) rfl ?_
  refine TW.on 71 rfl rfl rfl (Yl.move rfl) rfl ?_
  refine TW.on 71 rfl rfl rfl (Yl.bytesRow (bytes x) rfl Tryd.underlying26 Tryd.underlying5 Tryd.underlying9 (by repeat (first | exact List.Mem.head _ | refine List.Mem.tail _ ?_)) ((fun j v hj => by rw [Nat.zero_add]; exact hj)) (hbl.symm)) rfl ?_
  refine TW.on 71 rfl rfl rfl (Yl.move rfl) rfl ?_
  refine TW.nil ?_
  refine AW.act 6 (by kernel_rfl) rfl ?_
  refine LW.on 71 rfl rfl ?_
  refine LW.call (law_Bytes W B x) Tryd.func18 rfl FactsLawOwn.fname18 ⟨rfl, trivial⟩ (Take.none _) rfl ?_
  rintro _ _ ⟨b4, rfl, rfl⟩
  refine LW.nil ?_
  refine AW.back (fun _ s => Held.of s (by repeat (first | exact Sub.nil _ | refine Sub.cons1 (by repeat (first | exact Take.head _ _ | apply Take.tail)) ?_))) ?_
  refine AW.act 7 (by kernel_rfl) rfl ?_
  refine LW.on 71 rfl rfl ?_
  refine LW.bytesStr (bytes x) rfl Tryd.underlying26 Tryd.underlying5 Tryd.underlying9 (RdAt.row (by repeat (first | exact Take.head _ _ | apply Take.tail)) (fun j v hj => by rw [Nat.zero_add]; exact hj)) (hbl.symm) rfl ?_
  refine LW.nil ?_
  refine AW.back (fun _ s => Held.of s (by repeat (first | exact Sub.nil _ | refine Sub.cons1 (by repeat (first | exact Take.head _ _ | apply Take.tail)) ?_))) ?_
  refine AW.takes [8, 9, 10, 11, 12, 13, 14, 15, 16, 17, 19] 9 (by kernel_rfl) (by kernel_rfl) rfl (by repeat (first | exact PO.body | refine PO.then_ ?_ | refine PO.block ?_ | refine PO.noGoto ?_)) (fun _ s => Held.of s (by repeat (first | exact Sub.nil _ | refine Sub.cons1 (by repeat (first | exact Take.head _ _ | apply Take.tail)) ?_))) ?_
  refine TW.on 71 rfl rfl rfl (Yl.strEql (true) rfl rfl Tryd.underlying9 (decide_eq_true (by simp))) rfl ?_
  refine TW.take rfl (Yl.pickT rfl rfl) rfl ?_
  refine TW.take rfl (Yl.move rfl) rfl ?_
  refine TW.on 79 rfl rfl rfl (Yl.move rfl) rfl ?_
  refine TW.on 79 rfl rfl rfl (Yl.lenSlice rfl Tryd.underlying33) rfl ?_
  refine TW.on 79 rfl rfl rfl (Yl.eql true rfl rfl (rfl)) rfl ?_
  refine TW.take rfl (Yl.pickT rfl rfl) rfl ?_
  refine TW.take rfl (Yl.move rfl) rfl ?_
  refine TW.on 84 rfl rfl rfl (Yl.move rfl) rfl ?_
  refine TW.on 84 rfl rfl rfl (Yl.indexAt rfl rfl Tryd.underlying33 FactsLawOwn.ixs33 (by decide) (by simp)) rfl ?_
  refine TW.on 84 rfl rfl rfl (Yl.move rfl) rfl ?_
  refine TW.nil ?_
  refine AW.act 18 (by kernel_rfl) rfl ?_
  refine LW.on 84 rfl rfl ?_
  refine LW.loadRd (v := .int .i64 (k : Int)) rfl (ho.src.rd (by repeat (first | exact Take.head _ _ | apply Take.tail))) (rfl) FactsLawOwn.one3 rfl ?_
  refine LW.nil ?_
  refine AW.back (fun _ s => Held.of s (by repeat (first | exact Sub.nil _ | refine Sub.cons1 (by repeat (first | exact Take.head _ _ | apply Take.tail)) ?_))) ?_
  refine AW.takes [20, 21, 22, 23] 4 (by kernel_rfl) (by kernel_rfl) rfl (by repeat (first | exact PO.body | refine PO.then_ ?_ | refine PO.block ?_ | refine PO.noGoto ?_)) (fun _ s => Held.of s (by repeat (first | exact Sub.nil _ | refine Sub.cons1 (by repeat (first | exact Take.head _ _ | apply Take.tail)) ?_))) ?_
  refine TW.on 84 rfl rfl rfl (Yl.eql true rfl rfl (by simp)) rfl ?_
  refine TW.take rfl (Yl.pickT rfl rfl) rfl ?_
  refine TW.take rfl (Yl.move rfl) rfl ?_
  refine TW.on 91 rfl rfl rfl (Yl.move rfl) rfl ?_
  refine TW.nil ?_
  refine AW.act 24 (by kernel_rfl) rfl ?_
  refine LW.on 91 rfl rfl ?_
  refine LW.call (dev_Down W B p bn bw bl 64 ((DevS.zero 64).put k (bytes x))) Tryd.func23 rfl FactsLawOwn.fname23 ⟨rfl, trivial⟩ (by repeat (first | exact Take.head _ _ | apply Take.tail)) rfl ?_
  rintro _ _ ⟨rfl, rfl⟩
  refine LW.nil ?_
  refine AW.back (fun _ s => Held.of s (by repeat (first | exact Sub.nil _ | refine Sub.cons1 (by repeat (first | exact Take.head _ _ | apply Take.tail)) ?_))) ?_
  refine AW.takes [25, 26, 27] 0 (by kernel_rfl) (by kernel_rfl) rfl (by repeat (first | exact PO.body | refine PO.then_ ?_ | refine PO.block ?_ | refine PO.noGoto ?_)) (fun _ s => Held.of s (by repeat (first | exact Sub.nil _ | refine Sub.cons1 (by repeat (first | exact Take.head _ _ | apply Take.tail)) ?_))) ?_
  refine TW.on 91 rfl rfl rfl (Yl.not (true) rfl (rfl)) rfl ?_
  refine TW.take rfl (Yl.pickT rfl rfl) rfl ?_
  refine TW.take rfl (Yl.assign rfl) rfl ?_
  refine TW.nil ?_
  refine AW.done (by kernel_rfl) ?_
  refine NW.then_ ?_
  refine CW.ret ?_
  refine NW.ret1 rfl rfl ⟨_, ⟨rfl, rfl⟩, ?_⟩
  exact Sub.nil _
end
end Go.Proofs.YtmgpldgldgdenaaDoor
