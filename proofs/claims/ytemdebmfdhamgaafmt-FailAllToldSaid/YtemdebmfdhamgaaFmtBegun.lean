/-
  'begun': one of each: it returns true and leaves what was there as it was.
-/
import Derived.Test.YtemdebmfdhamgaaFmtDev3
import Derived.Test.YtemdebmfdhamgaaFmtBin4
import Derived.Test.YtemdebmfdhamgaaFmtFail2
namespace Go.Proofs.YtemdebmfdhamgaaFmt
open Go.RowKit
namespace FactsBegun
theorem concrete24 : Tryf.prog.concrete 24 = true := by kernel_rfl
theorem fname10 : (Tryf.f10.name == "runtime.NumGoroutine") = false := by kernel_rfl
theorem fname15 : (Tryf.f15.name == "runtime.NumGoroutine") = false := by kernel_rfl
theorem fname16 : (Tryf.f16.name == "runtime.NumGoroutine") = false := by kernel_rfl
theorem fname17 : (Tryf.f17.name == "runtime.NumGoroutine") = false := by kernel_rfl
theorem fname18 : (Tryf.f18.name == "runtime.NumGoroutine") = false := by kernel_rfl
theorem fname19 : (Tryf.f19.name == "runtime.NumGoroutine") = false := by kernel_rfl
theorem fname20 : (Tryf.f20.name == "runtime.NumGoroutine") = false := by kernel_rfl
theorem fname21 : (Tryf.f21.name == "runtime.NumGoroutine") = false := by kernel_rfl
theorem fname22 : (Tryf.f22.name == "runtime.NumGoroutine") = false := by kernel_rfl
theorem fname23 : (Tryf.f23.name == "runtime.NumGoroutine") = false := by kernel_rfl
theorem fname24 : (Tryf.f24.name == "runtime.NumGoroutine") = false := by kernel_rfl
theorem fname25 : (Tryf.f25.name == "runtime.NumGoroutine") = false := by kernel_rfl
theorem fname6 : (Tryf.f6.name == "runtime.NumGoroutine") = false := by kernel_rfl
theorem fname8 : (Tryf.f8.name == "runtime.NumGoroutine") = false := by kernel_rfl
theorem fname9 : (Tryf.f9.name == "runtime.NumGoroutine") = false := by kernel_rfl
theorem info2 : (Tryf.prog.info? 2).map (fun i => (i.zero, i.size, i.bytes)) = some (some (.int .i64 0), 1, 8) := by kernel_rfl
theorem info4 : (Tryf.prog.info? 4).map (fun i => (i.zero, i.size, i.bytes)) = some (some (.bool false), 1, 1) := by kernel_rfl
theorem info5 : (Tryf.prog.info? 5).map (fun i => (i.zero, i.size, i.bytes)) = some (some (.int .u8 0), 1, 1) := by kernel_rfl
theorem ixs41 : (Tryf.prog.info? 5).map (·.size) = some 1 := by kernel_rfl
theorem one5 : oneB Tryf.prog 5 = true := by kernel_rfl
theorem sz5 : (Tryf.prog.info? 5).map (·.size) = some 1 := by kernel_rfl
theorem zero47 : (Tryf.prog.info? 47).bind (·.zero) = some (.agg #[.slice none 0 0]) := by kernel_rfl
end FactsBegun
def bgB : List UInt8 := (List.replicate 64 0).set 3 7
def bgS : DevS := ((DevS.zero 64).put 5 bgB).burn
theorem bgB_row : ((List.replicate 64 (0 : UInt8)).map u8v).set 3 (.int .u8 7) = bgB.map u8v := by kernel_rfl
theorem bg_r : (bgS.crash 64 [true]).now.getD 5 [] = bgB := by kernel_rfl
theorem bg_x : (bgS.crash 64 []).now.getD 5 [] = zSec := by kernel_rfl
def bgT : List UInt8 := [1, 253, 2, 44, 1, 1, 2, 104, 105]
theorem bg_t : ([] ++ encs [-3, 300] ++ encZ ((2 : Nat) : Int) ++ [104, 105] : List UInt8) = bgT := by decide +kernel
theorem bg_1 : getZ bgT = some (-3, 2) := by decide +kernel
theorem bg_2 : getZ (bgT.drop 2) = some (300, 3) := by decide +kernel
theorem bg_3 : getZ ((bgT.drop 2).drop 3) = some (2, 2) := by decide +kernel
section
variable (W : World) (B : Nat)

theorem law_begun (h0 : 0 < B) (hg : W.cell? ⟨0, 0, none⟩ = some (rty 26)) : Spec Tryf.prog W B 5 [] [] (fun v post => v = .bool true ∧ post = []) := by
  have hk0 : (DevS.zero 64).Ok 64 := DevS.Ok.zero (by decide) (by decide)
  have hk1 : bgS.Ok 64 := (hk0.put (by decide)).burn rfl
  refine Spec.enter ([]) Tryf.func5 rfl Tryf.ntmps5 rfl (by first | rfl | simp) (fun w0 => ?_)
  refine CW.seq ?_
  refine CW.region ?_
  refine LW.assign rfl rfl ?_
  refine LW.nil ?_
  refine NW.then_ ?_
  refine CW.seq ?_
  refine CW.region ?_
  refine LW.call (dev_New W B 64 (by decide) (by decide)) Tryf.func15 rfl FactsBegun.fname15 ⟨rfl, trivial⟩ (Take.none _) rfl ?_
  rintro _ _ ⟨p, bn, bw, bl, rfl, rfl⟩
  refine LW.assign rfl rfl ?_
  refine LW.nil ?_
  refine NW.then_ ?_
  refine CW.seq ?_
  refine CW.seq ?_
  refine CW.region ?_
  refine LW.move rfl rfl ?_
  refine LW.ptrNil _ rfl Tryf.underlying39 rfl rfl ?_
  refine LW.nil ?_
  refine NW.then_ ?_
  refine CW.cond_false rfl ?_
  refine CW.skip ?_
  refine NW.then_ ?_
  refine CW.seq ?_
  refine CW.region ?_
  refine LW.make (64) (64) ((List.replicate 64 (0 : UInt8)).map u8v) rfl rfl (by first | rfl | omega) (by first | rfl | omega) Tryf.underlying41 FactsBegun.info5 (by omega) (by omega) (by omega) (by rw [List.map_replicate]; exact madeCells_rep _ _ _ (by intro x hx; simp [Value.cells] at hx; exact hx) (by simp [Value.cells])) rfl ?_
  intro bm16
  refine LW.assign rfl rfl ?_
  refine LW.nil ?_
  refine NW.then_ ?_
  refine CW.seq ?_
  refine CW.region ?_
  refine LW.move rfl rfl ?_
  refine LW.indexAddr (3) rfl rfl Tryf.underlying41 FactsBegun.ixs41 (by omega) (by omega) (rfl) rfl ?_
  refine LW.store rfl rfl (by repeat (first | exact Take.head _ _ | apply Take.tail)) (by first | decide | exact Nat.lt_of_sub_pos (by rfl) | (simp; done) | simp [devHead]) FactsBegun.sz5 (rfl) ?_
  rw [bgB_row]
  refine LW.nil ?_
  refine NW.then_ ?_
  refine CW.seq ?_
  refine CW.region ?_
  refine LW.move rfl rfl ?_
  refine LW.move rfl rfl ?_
  refine LW.call (dev_Write_ok W B p bn bw bl 64 (DevS.zero 64) hk0 5 (by decide) rfl [cr bm16 5 (bgB.map u8v)] (some ⟨bm16, 0, none⟩) 64 bgB rfl (Src.row (fun j v hj => by rw [Nat.zero_add]; exact hj))) Tryf.func16 rfl FactsBegun.fname16 ⟨rfl, rfl, rfl, trivial⟩ (Take.both (by repeat (first | exact Take.head _ _ | apply Take.tail)) (by repeat (first | exact Take.head _ _ | apply Take.tail))) rfl ?_
  rintro _ _ ⟨rfl, rfl⟩; refine LW.split2 ?_
  refine LW.assign rfl rfl ?_
  refine LW.nil ?_
  refine NW.then_ ?_
  refine CW.seq ?_
  refine CW.region ?_
  refine LW.move rfl rfl ?_
  refine LW.buildSlice (vs := [_]) ⟨rfl, trivial⟩ rfl (by intro v hv; simp at hv; subst hv; rfl) Tryf.underlying80 FactsBegun.info4 rfl (by decide) (by decide) rfl ?_
  intro bs23
  refine LW.call (dev_Crash W B p bn bw bl 64 bgS hk1 [cr bs23 4 [.bool true]] (some ⟨bs23, 0, none⟩) 1 [true] (Src.row (fun j v hj => by rw [Nat.zero_add]; exact hj))) Tryf.func17 rfl FactsBegun.fname17 ⟨rfl, rfl, trivial⟩ (Take.both (by repeat (first | exact Take.head _ _ | apply Take.tail)) (by repeat (first | exact Take.head _ _ | apply Take.tail))) rfl ?_
  rintro _ _ ⟨cp, cn, cw, cl, rfl, rfl⟩; refine LW.split2 (LW.split2p ?_)
  refine LW.assign rfl rfl ?_
  refine LW.nil ?_
  refine NW.then_ ?_
  refine CW.seq ?_
  refine CW.region ?_
  refine LW.move rfl rfl ?_
  refine LW.call (dev_Crash W B p bn bw bl 64 bgS hk1 [] none 0 [] Src.nil) Tryf.func17 rfl FactsBegun.fname17 ⟨rfl, rfl, trivial⟩ (Take.both (Take.none _) (by repeat (first | exact Take.head _ _ | apply Take.tail))) rfl ?_
  rintro _ _ ⟨xp, xn, xw, xl, rfl, rfl⟩; refine LW.split2 (LW.split2p ?_)
  refine LW.assign rfl rfl ?_
  refine LW.nil ?_
  refine NW.then_ ?_
  refine CW.seq ?_
  refine CW.seq ?_
  refine CW.region ?_
  refine LW.move rfl rfl ?_
  refine LW.ptrNil _ rfl Tryf.underlying39 rfl rfl ?_
  refine LW.move rfl rfl ?_
  refine LW.on 29 rfl rfl ?_
  refine LW.move rfl rfl ?_
  refine LW.on 29 rfl rfl ?_
  refine LW.ptrNil _ rfl Tryf.underlying39 rfl rfl ?_
  refine LW.pickF rfl rfl rfl ?_
  refine LW.nil ?_
  refine NW.then_ ?_
  refine CW.cond_false rfl ?_
  refine CW.skip ?_
  refine NW.then_ ?_
  refine CW.seq ?_
  refine CW.region ?_
  refine LW.move rfl rfl ?_
  refine LW.call (dev_Read W B cp cn cw cl 64 (bgS.crash 64 [true]) (hk1.crash _) 5 (by decide)) Tryf.func18 rfl FactsBegun.fname18 ⟨rfl, rfl, trivial⟩ (by repeat (first | exact Take.head _ _ | apply Take.tail)) rfl ?_
  rintro _ _ ⟨q1, rfl, rfl⟩; rw [bg_r]; refine LW.split1 ?_
  refine LW.move rfl rfl ?_
  refine LW.extract rfl rfl rfl ?_
  refine LW.extract rfl rfl rfl ?_
  refine LW.assign rfl rfl ?_
  refine LW.assign rfl rfl ?_
  refine LW.nil ?_
  refine NW.then_ ?_
  refine CW.seq ?_
  refine CW.region ?_
  refine LW.move rfl rfl ?_
  refine LW.call (dev_Read W B xp xn xw xl 64 (bgS.crash 64 []) (hk1.crash _) 5 (by decide)) Tryf.func18 rfl FactsBegun.fname18 ⟨rfl, rfl, trivial⟩ (by repeat (first | exact Take.head _ _ | apply Take.tail)) rfl ?_
  rintro _ _ ⟨q2, rfl, rfl⟩; rw [bg_x]; refine LW.split1 ?_
  refine LW.move rfl rfl ?_
  refine LW.extract rfl rfl rfl ?_
  refine LW.extract rfl rfl rfl ?_
  refine LW.assign rfl rfl ?_
  refine LW.assign rfl rfl ?_
  refine LW.nil ?_
  refine NW.then_ ?_
  refine CW.seq ?_
  refine CW.region ?_
  refine LW.alloc FactsBegun.zero47 rfl ?_
  intro ba10
  refine LW.nil ?_
  refine NW.then_ ?_
  refine CW.seq ?_
  refine CW.region ?_
  refine LW.buildSlice (vs := [_, _]) ⟨rfl, rfl, trivial⟩ rfl (by intro v hv; simp at hv; rcases hv with rfl | rfl <;> rfl) Tryf.underlying89 FactsBegun.info2 rfl (by decide) (by decide) rfl ?_
  intro bs43
  refine LW.call (bin_WInt W B ba10 (.slice none 0 0) [] [] OwnB.nil [-3, 300] (by intro n hn; simp at hn; rcases hn with rfl | rfl <;> exact ⟨by decide, by decide⟩) [cr bs43 2 [.int .i64 (-3), .int .i64 300]] (some ⟨bs43, 0, none⟩) 2 (Src.row (fun j v hj => by rw [Nat.zero_add]; exact hj)) (by decide)) Tryf.func19 rfl FactsBegun.fname19 ⟨rfl, rfl, trivial⟩ (Take.both (by repeat (first | exact Take.head _ _ | apply Take.tail)) (Take.both (by repeat (first | exact Take.head _ _ | apply Take.tail)) (Take.none _))) rfl ?_
  rintro _ _ ⟨rfl, v1, ch1, ho1, rfl⟩; refine LW.split2 ?_
  refine LW.nil ?_
  refine NW.then_ ?_
  refine CW.seq ?_
  refine CW.region ?_
  refine LW.call (bin_WText W B ba10 v1 ([] ++ encs [-3, 300]) ch1 ho1 [104, 105] (by decide +kernel)) Tryf.func20 rfl FactsBegun.fname20 ⟨rfl, rfl, trivial⟩ (by repeat (first | exact Take.head _ _ | apply Take.tail)) rfl ?_
  rintro _ _ ⟨rfl, v2, ch2, ho2, rfl⟩; rw [show ([] ++ encs [-3, 300] ++ encZ (([104, 105] : List UInt8).length : Int) ++ [104, 105] : List UInt8) = bgT from bg_t] at ho2
  refine LW.nil ?_
  refine NW.then_ ?_
  refine CW.seq ?_
  refine CW.region ?_
  refine LW.call (bin_WBytes W B ba10 v2 bgT ch2 ho2 (by decide)) Tryf.func22 rfl FactsBegun.fname22 ⟨rfl, trivial⟩ (by repeat (first | exact Take.head _ _ | apply Take.tail)) rfl ?_
  rintro v3 _ ⟨ch3, ho3, rfl⟩; obtain ⟨A3, cp3, rfl, hA3, _⟩ := OwnS.val ho3; refine LW.split2 ?_
  refine LW.call (bin_NewReader W B ch3 A3 cp3 bgT (OwnS.src ho3) hA3 (by decide)) Tryf.func21 rfl FactsBegun.fname21 ⟨rfl, trivial⟩ (by repeat (first | exact Take.head _ _ | apply Take.tail)) rfl ?_
  rintro _ _ ⟨rp, rv, rch, rfl, hrd, rfl⟩; refine LW.split2 ?_
  refine LW.assign rfl rfl ?_
  refine LW.nil ?_
  refine NW.then_ ?_
  refine CW.seq ?_
  refine CW.region ?_
  refine LW.mkIface rfl FactsBegun.concrete24 rfl ?_
  refine LW.call (fail_At W B [98] [] 5 (fun _ => by decide)) Tryf.func6 rfl FactsBegun.fname6 ⟨rfl, rfl, trivial⟩ (Take.none _) rfl ?_
  rintro _ _ ⟨p1, rfl, rfl⟩
  refine LW.call (fail_At W B [97] [(p1, [98])] 5 (fun h => (by cases h))) Tryf.func6 rfl FactsBegun.fname6 ⟨rfl, rfl, trivial⟩ (by repeat (first | exact Take.head _ _ | apply Take.tail)) rfl ?_
  rintro _ _ ⟨p2, rfl, rfl⟩
  refine LW.assign rfl rfl ?_
  refine LW.nil ?_
  refine NW.then_ ?_
  refine CW.seq ?_
  refine CW.region ?_
  refine LW.move rfl rfl ?_
  refine LW.eql true rfl rfl (rfl) rfl ?_
  refine LW.move rfl rfl ?_
  refine LW.on 53 rfl rfl ?_
  refine LW.move rfl rfl ?_
  refine LW.on 53 rfl rfl ?_
  refine LW.eql true rfl rfl (rfl) rfl ?_
  refine LW.pickT rfl rfl rfl ?_
  refine LW.move rfl rfl ?_
  refine LW.on 57 rfl rfl ?_
  refine LW.move rfl rfl ?_
  refine LW.on 57 rfl rfl ?_
  refine LW.eql true rfl rfl (rfl) rfl ?_
  refine LW.pickT rfl rfl rfl ?_
  refine LW.move rfl rfl ?_
  refine LW.on 61 rfl rfl ?_
  refine LW.move rfl rfl ?_
  refine LW.on 61 rfl rfl ?_
  refine LW.bytesStr (bgB) rfl Tryf.underlying41 Tryf.underlying5 Tryf.underlying9 (RdAt.row (by repeat (first | exact Take.head _ _ | apply Take.tail)) (fun j v hj => by rw [Nat.zero_add]; exact hj)) (rfl) rfl ?_
  refine LW.on 61 rfl rfl ?_
  refine LW.move rfl rfl ?_
  refine LW.on 61 rfl rfl ?_
  refine LW.bytesStr (bgB) rfl Tryf.underlying41 Tryf.underlying5 Tryf.underlying9 (RdAt.row (by repeat (first | exact Take.head _ _ | apply Take.tail)) (fun j v hj => by rw [Nat.zero_add]; exact hj)) (rfl) rfl ?_
  refine LW.on 61 rfl rfl ?_
  refine LW.strEql (true) rfl rfl Tryf.underlying9 (decide_eq_true rfl) rfl ?_
  refine LW.pickT rfl rfl rfl ?_
  refine LW.move rfl rfl ?_
  refine LW.on 68 rfl rfl ?_
  refine LW.move rfl rfl ?_
  refine LW.on 68 rfl rfl ?_
  refine LW.lenSlice rfl Tryf.underlying41 rfl ?_
  refine LW.on 68 rfl rfl ?_
  refine LW.eql true rfl rfl (rfl) rfl ?_
  refine LW.pickT rfl rfl rfl ?_
  refine LW.move rfl rfl ?_
  refine LW.on 73 rfl rfl ?_
  refine LW.move rfl rfl ?_
  refine LW.on 73 rfl rfl ?_
  refine LW.indexAddr (3) rfl rfl Tryf.underlying41 FactsBegun.ixs41 (by decide) (by decide) (rfl) rfl ?_
  refine LW.on 73 rfl rfl ?_
  refine LW.load (v := .int .u8 0) rfl (by repeat (first | exact Take.head _ _ | apply Take.tail)) (rfl) FactsBegun.one5 rfl ?_
  refine LW.on 73 rfl rfl ?_
  refine LW.eql true rfl rfl (rfl) rfl ?_
  refine LW.pickT rfl rfl rfl ?_
  refine LW.move rfl rfl ?_
  refine LW.on 79 rfl rfl ?_
  refine LW.move rfl rfl ?_
  refine LW.on 79 rfl rfl ?_
  refine LW.ptrNotNil _ rfl Tryf.underlying50 rfl rfl ?_
  refine LW.pickT rfl rfl rfl ?_
  refine LW.move rfl rfl ?_
  refine LW.on 83 rfl rfl ?_
  refine LW.move rfl rfl ?_
  refine LW.on 83 rfl rfl ?_
  refine LW.call (bin_RInt_some W B rp rv bgT rch hrd (by decide) (-3) 2 bg_1) Tryf.func23 rfl FactsBegun.fname23 ⟨rfl, trivial⟩ (by repeat (first | exact Take.head _ _ | apply Take.tail)) rfl ?_
  rintro _ _ ⟨rfl, rv1, hrd1, rfl⟩
  refine LW.on 83 rfl rfl ?_
  refine LW.eql true rfl rfl (rfl) rfl ?_
  refine LW.pickT rfl rfl rfl ?_
  refine LW.move rfl rfl ?_
  refine LW.on 88 rfl rfl ?_
  refine LW.move rfl rfl ?_
  refine LW.on 88 rfl rfl ?_
  refine LW.call (bin_RInt_some W B rp rv1 (bgT.drop 2) rch hrd1 (by decide) 300 3 bg_2) Tryf.func23 rfl FactsBegun.fname23 ⟨rfl, trivial⟩ (by repeat (first | exact Take.head _ _ | apply Take.tail)) rfl ?_
  rintro _ _ ⟨rfl, rv2, hrd2, rfl⟩
  refine LW.on 88 rfl rfl ?_
  refine LW.eql true rfl rfl (rfl) rfl ?_
  refine LW.pickT rfl rfl rfl ?_
  refine LW.move rfl rfl ?_
  refine LW.on 93 rfl rfl ?_
  refine LW.move rfl rfl ?_
  refine LW.on 93 rfl rfl ?_
  refine LW.call ((bin_RText W B rp rv2 ((bgT.drop 2).drop 3) rch hrd2 (by decide) 2 2 bg_3 5).mono (R' := fun r post => r = strV [104, 105] ∧ ∃ v', RdS W B v' [] rch ∧ post = [cr rp 92 [v', .bool false]] ++ rch) (by rintro r post (⟨hn, _⟩ | ⟨_, hr, v', hv, hp⟩); exact absurd ⟨by decide, by decide, by decide⟩ hn; exact ⟨hr, v', hv, hp⟩)) Tryf.func24 rfl FactsBegun.fname24 ⟨rfl, rfl, trivial⟩ (by repeat (first | exact Take.head _ _ | apply Take.tail)) rfl ?_
  rintro _ _ ⟨rfl, rv3, hrd3, rfl⟩
  refine LW.on 93 rfl rfl ?_
  refine LW.strEql (true) rfl rfl Tryf.underlying9 (decide_eq_true rfl) rfl ?_
  refine LW.pickT rfl rfl rfl ?_
  refine LW.move rfl rfl ?_
  refine LW.on 98 rfl rfl ?_
  refine LW.move rfl rfl ?_
  refine LW.on 98 rfl rfl ?_
  refine LW.call (bin_End W B rp rv3 false [] rch hrd3) Tryf.func25 rfl FactsBegun.fname25 ⟨rfl, trivial⟩ (by repeat (first | exact Take.head _ _ | apply Take.tail)) rfl ?_
  rintro _ _ ⟨rfl, rfl⟩
  refine LW.on 98 rfl rfl ?_
  refine LW.eql true rfl rfl (rfl) rfl ?_
  refine LW.pickT rfl rfl rfl ?_
  refine LW.move rfl rfl ?_
  refine LW.on 103 rfl rfl ?_
  refine LW.move rfl rfl ?_
  refine LW.on 103 rfl rfl ?_
  refine LW.call (fail_Code W B [(p2, [97]), (p1, [98])] 5 h0 hg) Tryf.func9 rfl FactsBegun.fname9 ⟨rfl, trivial⟩ (by repeat (first | exact Take.head _ _ | apply Take.tail)) rfl ?_
  rintro _ _ ⟨rfl, rfl⟩
  refine LW.on 103 rfl rfl ?_
  refine LW.eql true rfl rfl (rfl) rfl ?_
  refine LW.pickT rfl rfl rfl ?_
  refine LW.move rfl rfl ?_
  refine LW.on 108 rfl rfl ?_
  refine LW.move rfl rfl ?_
  refine LW.on 108 rfl rfl ?_
  refine LW.call (fail_Where W B [(p2, [97]), (p1, [98])] 5 (by simp)) Tryf.func8 rfl FactsBegun.fname8 ⟨rfl, trivial⟩ (by repeat (first | exact Take.head _ _ | apply Take.tail)) rfl ?_
  rintro v4 _ ⟨ch4, ho4, rfl⟩; obtain ⟨A4, cp4, rfl, _, _⟩ := OwnS.val ho4; refine LW.split2 ?_
  refine LW.on 108 rfl rfl ?_
  refine LW.lenSlice rfl Tryf.underlying22 rfl ?_
  refine LW.on 108 rfl rfl ?_
  refine LW.eql true rfl rfl (rfl) rfl ?_
  refine LW.pickT rfl rfl rfl ?_
  refine LW.move rfl rfl ?_
  refine LW.on 114 rfl rfl ?_
  refine LW.move rfl rfl ?_
  refine LW.on 114 rfl rfl ?_
  refine LW.call (fail_Is W B [(p2, [97]), (p1, [98])] 5 5) Tryf.func10 rfl FactsBegun.fname10 ⟨rfl, rfl, trivial⟩ (by repeat (first | exact Take.head _ _ | apply Take.tail)) rfl ?_
  rintro _ _ ⟨rfl, rfl⟩
  refine LW.pickT rfl rfl rfl ?_
  refine LW.assign rfl rfl ?_
  refine LW.nil ?_
  refine NW.then_ ?_
  refine CW.ret ?_
  refine NW.ret1 rfl rfl ⟨_, ⟨rfl, rfl⟩, ?_⟩
  exact Sub.nil _
end
end Go.Proofs.YtemdebmfdhamgaaFmt
