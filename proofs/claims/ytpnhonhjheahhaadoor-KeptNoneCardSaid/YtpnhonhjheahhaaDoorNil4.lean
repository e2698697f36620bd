/-
  The functions of slot, wal and snap, asked about nothing.
-/
import Derived.Test.YtpnhonhjheahhaaDoorHelp5
namespace Go.Proofs.YtpnhonhjheahhaaDoor
open Go.RowKit
namespace FactsNil4
theorem fname21 : (Tryd.f21.name == "runtime.NumGoroutine") = false := by kernel_rfl
theorem fname22 : (Tryd.f22.name == "runtime.NumGoroutine") = false := by kernel_rfl
theorem fname23 : (Tryd.f23.name == "runtime.NumGoroutine") = false := by kernel_rfl
theorem fname24 : (Tryd.f24.name == "runtime.NumGoroutine") = false := by kernel_rfl
theorem fname25 : (Tryd.f25.name == "runtime.NumGoroutine") = false := by kernel_rfl
theorem fname27 : (Tryd.f27.name == "runtime.NumGoroutine") = false := by kernel_rfl
theorem fname28 : (Tryd.f28.name == "runtime.NumGoroutine") = false := by kernel_rfl
theorem fname31 : (Tryd.f31.name == "runtime.NumGoroutine") = false := by kernel_rfl
theorem fname32 : (Tryd.f32.name == "runtime.NumGoroutine") = false := by kernel_rfl
theorem fname33 : (Tryd.f33.name == "runtime.NumGoroutine") = false := by kernel_rfl
theorem fname34 : (Tryd.f34.name == "runtime.NumGoroutine") = false := by kernel_rfl
theorem fname35 : (Tryd.f35.name == "runtime.NumGoroutine") = false := by kernel_rfl
theorem fname36 : (Tryd.f36.name == "runtime.NumGoroutine") = false := by kernel_rfl
theorem fname37 : (Tryd.f37.name == "runtime.NumGoroutine") = false := by kernel_rfl
theorem fname43 : (Tryd.f43.name == "runtime.NumGoroutine") = false := by kernel_rfl
theorem info2 : (Tryd.prog.info? 2).map (fun i => (i.zero, i.size, i.bytes)) = some (some (.int .i64 0), 1, 8) := by kernel_rfl
theorem info5 : (Tryd.prog.info? 5).map (fun i => (i.zero, i.size, i.bytes)) = some (some (.int .u8 0), 1, 1) := by kernel_rfl
end FactsNil4
theorem openL_zero (n : Nat) (hn : 2 ≤ n) : openL n (DevS.zero n).N = none := by
  have h := (zero_slot n hn).newest
  unfold openL
  rw [h]
section
variable (W : World) (B : Nat)
theorem devN_Sectors : Spec Tryd.prog W B 43 [.pointer none] [] (fun v post => v = .int .i64 0 ∧ post = []) := by
  refine Spec.enter ([]) Tryd.func43 rfl Tryd.ntmps43 rfl (by first | rfl | simp) (fun w0 => ?_)
  refine CW.seq ?_
  refine CW.region ?_
  refine LW.assign rfl rfl ?_
  refine LW.nil ?_
  refine NW.then_ ?_
  refine CW.seq ?_
  refine CW.seq ?_
  refine CW.region ?_
  refine LW.move rfl rfl ?_
  refine LW.ptrNil _ rfl Tryd.underlying27 rfl rfl ?_
  refine LW.nil ?_
  refine NW.then_ ?_
  refine CW.cond_true rfl ?_
  refine CW.seq ?_
  refine CW.region ?_
  refine LW.assign rfl rfl ?_
  refine LW.nil ?_
  refine NW.then_ ?_
  refine CW.ret ?_
  refine NW.then_ret ?_
  refine NW.ret1 rfl rfl ⟨_, ⟨rfl, rfl⟩, ?_⟩
  exact Sub.nil _
theorem slotN_Make : Spec Tryd.prog W B 32 [.pointer none, .slice none 0 0] [] (fun v post => v = .tuple #[.pointer none, .int .i64 9] ∧ post = []) := by
  refine Spec.enter ([]) Tryd.func32 rfl Tryd.ntmps32 rfl (by first | rfl | simp) (fun w0 => ?_)
  refine CW.seq ?_
  refine CW.region ?_
  refine LW.assign rfl rfl ?_
  refine LW.assign rfl rfl ?_
  refine LW.nil ?_
  refine NW.then_ ?_
  refine CW.seq ?_
  refine CW.block ?_
  refine CW.seq ?_
  refine CW.region ?_
  refine LW.move rfl rfl ?_
  refine LW.lenSlice rfl Tryd.underlying47 rfl ?_
  refine LW.gtr false rfl rfl (decide_eq_false (by omega)) rfl ?_
  refine LW.assign rfl rfl ?_
  refine LW.nil ?_
  refine NW.then_ ?_
  refine CW.cond_false rfl ?_
  refine CW.seq ?_
  refine CW.region ?_
  refine LW.move rfl rfl ?_
  refine LW.ptrNil _ rfl Tryd.underlying27 rfl rfl ?_
  refine LW.assign rfl rfl ?_
  refine LW.nil ?_
  refine NW.then_ ?_
  refine CW.cond_true rfl ?_
  refine CW.seq ?_
  refine CW.region ?_
  refine LW.assign rfl rfl ?_
  refine LW.assign rfl rfl ?_
  refine LW.nil ?_
  refine NW.then_ ?_
  refine CW.ret ?_
  refine NW.block_ret ?_
  refine NW.then_ret ?_
  refine NW.ret2 rfl rfl rfl ⟨_, ⟨rfl, rfl⟩, ?_⟩
  exact Sub.nil _
theorem slotN_Make5 (p : Nat) (A : Option Addr) (cp : Nat) : Spec Tryd.prog W B 32 [.pointer (some ⟨p, 0, none⟩), .slice A 5 cp] [] (fun v post => v = .tuple #[.pointer none, .int .i64 1] ∧ post = []) := by
  refine Spec.enter ([]) Tryd.func32 rfl Tryd.ntmps32 rfl (by first | rfl | simp) (fun w0 => ?_)
  refine CW.seq ?_
  refine CW.region ?_
  refine LW.assign rfl rfl ?_
  refine LW.assign rfl rfl ?_
  refine LW.nil ?_
  refine NW.then_ ?_
  refine CW.seq ?_
  refine CW.block ?_
  refine CW.seq ?_
  refine CW.region ?_
  refine LW.move rfl rfl ?_
  refine LW.lenSlice rfl Tryd.underlying47 rfl ?_
  refine LW.gtr true rfl rfl (decide_eq_true (by omega)) rfl ?_
  refine LW.assign rfl rfl ?_
  refine LW.nil ?_
  refine NW.then_ ?_
  refine CW.cond_true rfl ?_
  refine CW.seq ?_
  refine CW.region ?_
  refine LW.assign rfl rfl ?_
  refine LW.assign rfl rfl ?_
  refine LW.nil ?_
  refine NW.then_ ?_
  refine CW.ret ?_
  refine NW.block_ret ?_
  refine NW.then_ret ?_
  refine NW.ret2 rfl rfl rfl ⟨_, ⟨rfl, rfl⟩, ?_⟩
  exact Sub.nil _
theorem slotN_Open : Spec Tryd.prog W B 33 [.pointer none] [] (fun v post => v = .tuple #[.pointer none, .slice none 0 0, .int .i64 9] ∧ post = []) := by
  refine Spec.enter ([]) Tryd.func33 rfl Tryd.ntmps33 rfl (by first | rfl | simp) (fun w0 => ?_)
  refine CW.seq ?_
  refine CW.region ?_
  refine LW.assign rfl rfl ?_
  refine LW.assign rfl rfl ?_
  refine LW.assign rfl rfl ?_
  refine LW.nil ?_
  refine NW.then_ ?_
  refine CW.seq ?_
  refine CW.seq ?_
  refine CW.region ?_
  refine LW.move rfl rfl ?_
  refine LW.ptrNil _ rfl Tryd.underlying27 rfl rfl ?_
  refine LW.nil ?_
  refine NW.then_ ?_
  refine CW.cond_true rfl ?_
  refine CW.seq ?_
  refine CW.region ?_
  refine LW.assign rfl rfl ?_
  refine LW.assign rfl rfl ?_
  refine LW.assign rfl rfl ?_
  refine LW.nil ?_
  refine NW.then_ ?_
  refine CW.ret ?_
  refine NW.then_ret ?_
  refine NW.ret3 rfl rfl rfl rfl ⟨_, ⟨rfl, rfl⟩, ?_⟩
  exact Sub.nil _
theorem slotN_Set (A : Option Addr) (l cp : Nat) : Spec Tryd.prog W B 35 [.pointer none, .slice A l cp] [] (fun v post => v = .int .i64 9 ∧ post = []) := by
  refine Spec.enter ([]) Tryd.func35 rfl Tryd.ntmps35 rfl (by first | rfl | simp) (fun w0 => ?_)
  refine CW.seq ?_
  refine CW.region ?_
  refine LW.assign rfl rfl ?_
  refine LW.nil ?_
  refine NW.then_ ?_
  refine CW.seq ?_
  refine CW.block ?_
  refine CW.seq ?_
  refine CW.region ?_
  refine LW.move rfl rfl ?_
  refine LW.ptrNil _ rfl Tryd.underlying44 rfl rfl ?_
  refine LW.assign rfl rfl ?_
  refine LW.nil ?_
  refine NW.then_ ?_
  refine CW.cond_true rfl ?_
  refine CW.seq ?_
  refine CW.region ?_
  refine LW.assign rfl rfl ?_
  refine LW.nil ?_
  refine NW.then_ ?_
  refine CW.ret ?_
  refine NW.block_ret ?_
  refine NW.then_ret ?_
  refine NW.ret1 rfl rfl ⟨_, ⟨rfl, rfl⟩, ?_⟩
  exact Sub.nil _
theorem walN_Make : Spec Tryd.prog W B 22 [.pointer none] [] (fun v post => v = .tuple #[.pointer none, .int .i64 9] ∧ post = []) := by
  refine Spec.enter ([]) Tryd.func22 rfl Tryd.ntmps22 rfl (by first | rfl | simp) (fun w0 => ?_)
  refine CW.seq ?_
  refine CW.region ?_
  refine LW.assign rfl rfl ?_
  refine LW.assign rfl rfl ?_
  refine LW.nil ?_
  refine NW.then_ ?_
  refine CW.seq ?_
  refine CW.block ?_
  refine CW.seq ?_
  refine CW.region ?_
  refine LW.move rfl rfl ?_
  refine LW.ptrNil _ rfl Tryd.underlying27 rfl rfl ?_
  refine LW.assign rfl rfl ?_
  refine LW.nil ?_
  refine NW.then_ ?_
  refine CW.cond_true rfl ?_
  refine CW.seq ?_
  refine CW.region ?_
  refine LW.assign rfl rfl ?_
  refine LW.assign rfl rfl ?_
  refine LW.nil ?_
  refine NW.then_ ?_
  refine CW.ret ?_
  refine NW.block_ret ?_
  refine NW.then_ret ?_
  refine NW.ret2 rfl rfl rfl ⟨_, ⟨rfl, rfl⟩, ?_⟩
  exact Sub.nil _
theorem walN_Open : Spec Tryd.prog W B 28 [.pointer none] [] (fun v post => v = .tuple #[.pointer none, .slice none 0 0, .int .i64 9] ∧ post = []) := by
  refine Spec.enter ([]) Tryd.func28 rfl Tryd.ntmps28 rfl (by first | rfl | simp) (fun w0 => ?_)
  refine CW.seq ?_
  refine CW.region ?_
  refine LW.assign rfl rfl ?_
  refine LW.assign rfl rfl ?_
  refine LW.assign rfl rfl ?_
  refine LW.nil ?_
  refine NW.then_ ?_
  refine CW.seq ?_
  refine CW.region ?_
  refine LW.move rfl rfl ?_
  refine LW.call (slotN_Open W B) Tryd.func33 rfl FactsNil4.fname33 ⟨rfl, trivial⟩ (Take.none _) rfl ?_
  rintro _ _ ⟨rfl, rfl⟩
  refine LW.move rfl rfl ?_
  refine LW.extract rfl rfl rfl ?_
  refine LW.extract rfl rfl rfl ?_
  refine LW.extract rfl rfl rfl ?_
  refine LW.assign rfl rfl ?_
  refine LW.assign rfl rfl ?_
  refine LW.assign rfl rfl ?_
  refine LW.nil ?_
  refine NW.then_ ?_
  refine CW.seq ?_
  refine CW.seq ?_
  refine CW.region ?_
  refine LW.move rfl rfl ?_
  refine LW.neq true rfl rfl (bne_iff_ne.2 (by omega)) rfl ?_
  refine LW.nil ?_
  refine NW.then_ ?_
  refine CW.cond_true rfl ?_
  refine CW.seq ?_
  refine CW.region ?_
  refine LW.move rfl rfl ?_
  refine LW.assign rfl rfl ?_
  refine LW.assign rfl rfl ?_
  refine LW.assign rfl rfl ?_
  refine LW.nil ?_
  refine NW.then_ ?_
  refine CW.ret ?_
  refine NW.then_ret ?_
  refine NW.ret3 rfl rfl rfl rfl ⟨_, ⟨rfl, rfl⟩, ?_⟩
  exact Sub.nil _
theorem walN_Area : Spec Tryd.prog W B 31 [.pointer none] [] (fun v post => v = .tuple #[.int .i64 0, .int .i64 0] ∧ post = []) := by
  refine Spec.enter ([]) Tryd.func31 rfl Tryd.ntmps31 rfl (by first | rfl | simp) (fun w0 => ?_)
  refine CW.seq ?_
  refine CW.region ?_
  refine LW.assign rfl rfl ?_
  refine LW.assign rfl rfl ?_
  refine LW.nil ?_
  refine NW.then_ ?_
  refine CW.seq ?_
  refine CW.seq ?_
  refine CW.region ?_
  refine LW.move rfl rfl ?_
  refine LW.ptrNil _ rfl Tryd.underlying23 rfl rfl ?_
  refine LW.nil ?_
  refine NW.then_ ?_
  refine CW.cond_true rfl ?_
  refine CW.seq ?_
  refine CW.region ?_
  refine LW.assign rfl rfl ?_
  refine LW.assign rfl rfl ?_
  refine LW.nil ?_
  refine NW.then_ ?_
  refine CW.ret ?_
  refine NW.then_ret ?_
  refine NW.ret2 rfl rfl rfl ⟨_, ⟨rfl, rfl⟩, ?_⟩
  exact Sub.nil _
theorem walN_Append (A : Option Addr) (l cp : Nat) : Spec Tryd.prog W B 25 [.pointer none, .slice A l cp] [] (fun v post => v = .int .i64 9 ∧ post = []) := by
  refine Spec.enter ([]) Tryd.func25 rfl Tryd.ntmps25 rfl (by first | rfl | simp) (fun w0 => ?_)
  refine CW.seq ?_
  refine CW.region ?_
  refine LW.assign rfl rfl ?_
  refine LW.nil ?_
  refine NW.then_ ?_
  refine CW.seq ?_
  refine CW.block ?_
  refine CW.seq ?_
  refine CW.region ?_
  refine LW.move rfl rfl ?_
  refine LW.ptrNil _ rfl Tryd.underlying23 rfl rfl ?_
  refine LW.move rfl rfl ?_
  refine LW.off 9 rfl rfl rfl rfl ?_
  refine LW.off 9 rfl rfl rfl rfl ?_
  refine LW.off 9 rfl rfl rfl rfl ?_
  refine LW.off 9 rfl rfl rfl rfl ?_
  refine LW.pickT rfl rfl rfl ?_
  refine LW.assign rfl rfl ?_
  refine LW.nil ?_
  refine NW.then_ ?_
  refine CW.cond_true rfl ?_
  refine CW.seq ?_
  refine CW.region ?_
  refine LW.assign rfl rfl ?_
  refine LW.nil ?_
  refine NW.then_ ?_
  refine CW.ret ?_
  refine NW.block_ret ?_
  refine NW.then_ret ?_
  refine NW.ret1 rfl rfl ⟨_, ⟨rfl, rfl⟩, ?_⟩
  exact Sub.nil _
theorem walN_Reset (a b : Int) : Spec Tryd.prog W B 27 [.pointer none, .int .i64 a, .int .i64 b] [] (fun v post => v = .int .i64 9 ∧ post = []) := by
  refine Spec.enter ([]) Tryd.func27 rfl Tryd.ntmps27 rfl (by first | rfl | simp) (fun w0 => ?_)
  refine CW.seq ?_
  refine CW.region ?_
  refine LW.assign rfl rfl ?_
  refine LW.nil ?_
  refine NW.then_ ?_
  refine CW.seq ?_
  refine CW.seq ?_
  refine CW.region ?_
  refine LW.move rfl rfl ?_
  refine LW.ptrNil _ rfl Tryd.underlying23 rfl rfl ?_
  refine LW.move rfl rfl ?_
  refine LW.off 10 rfl rfl rfl rfl ?_
  refine LW.off 10 rfl rfl rfl rfl ?_
  refine LW.off 10 rfl rfl rfl rfl ?_
  refine LW.off 10 rfl rfl rfl rfl ?_
  refine LW.pickT rfl rfl rfl ?_
  refine LW.nil ?_
  refine NW.then_ ?_
  refine CW.cond_true rfl ?_
  refine CW.seq ?_
  refine CW.region ?_
  refine LW.assign rfl rfl ?_
  refine LW.nil ?_
  refine NW.then_ ?_
  refine CW.ret ?_
  refine NW.then_ret ?_
  refine NW.ret1 rfl rfl ⟨_, ⟨rfl, rfl⟩, ?_⟩
  exact Sub.nil _
theorem walN_Room : Spec Tryd.prog W B 24 [.pointer none] [] (fun v post => v = .int .i64 0 ∧ post = []) := by
  refine Spec.enter ([]) Tryd.func24 rfl Tryd.ntmps24 rfl (by first | rfl | simp) (fun w0 => ?_)
  refine CW.seq ?_
  refine CW.region ?_
  refine LW.assign rfl rfl ?_
  refine LW.nil ?_
  refine NW.then_ ?_
  refine CW.seq ?_
  refine CW.seq ?_
  refine CW.region ?_
  refine LW.move rfl rfl ?_
  refine LW.ptrNil _ rfl Tryd.underlying23 rfl rfl ?_
  refine LW.nil ?_
  refine NW.then_ ?_
  refine CW.cond_true rfl ?_
  refine CW.seq ?_
  refine CW.region ?_
  refine LW.assign rfl rfl ?_
  refine LW.nil ?_
  refine NW.then_ ?_
  refine CW.ret ?_
  refine NW.then_ret ?_
  refine NW.ret1 rfl rfl ⟨_, ⟨rfl, rfl⟩, ?_⟩
  exact Sub.nil _
theorem snapN_Most : Spec Tryd.prog W B 36 [.pointer none] [] (fun v post => v = .int .i64 0 ∧ post = []) := by
  refine Spec.enter ([]) Tryd.func36 rfl Tryd.ntmps36 rfl (by first | rfl | simp) (fun w0 => ?_)
  refine CW.seq ?_
  refine CW.region ?_
  refine LW.assign rfl rfl ?_
  refine LW.nil ?_
  refine NW.then_ ?_
  refine CW.seq ?_
  refine CW.region ?_
  refine LW.move rfl rfl ?_
  refine LW.call (devN_Sectors W B) Tryd.func43 rfl FactsNil4.fname43 ⟨rfl, trivial⟩ (Take.none _) rfl ?_
  rintro _ _ ⟨rfl, rfl⟩
  refine LW.quo (0) rfl rfl (by decide) (rfl) rfl ?_
  refine LW.mul (0) rfl rfl (rfl) rfl ?_
  refine LW.assign rfl rfl ?_
  refine LW.nil ?_
  refine NW.then_ ?_
  refine CW.ret ?_
  refine NW.ret1 rfl rfl ⟨_, ⟨rfl, rfl⟩, ?_⟩
  exact Sub.nil _
theorem snapN_Put : Spec Tryd.prog W B 37 [.pointer none, .pointer none, .slice none 0 0] [] (fun v post => v = .int .i64 9 ∧ post = []) := by
  refine Spec.enter ([]) Tryd.func37 rfl Tryd.ntmps37 rfl (by first | rfl | simp) (fun w0 => ?_)
  refine CW.seq ?_
  refine CW.region ?_
  refine LW.assign rfl rfl ?_
  refine LW.nil ?_
  refine NW.then_ ?_
  refine CW.seq ?_
  refine CW.block ?_
  refine CW.seq ?_
  refine CW.region ?_
  refine LW.move rfl rfl ?_
  refine LW.lenSlice rfl Tryd.underlying31 rfl ?_
  refine LW.move rfl rfl ?_
  refine LW.call (snapN_Most W B) Tryd.func36 rfl FactsNil4.fname36 ⟨rfl, trivial⟩ (Take.none _) rfl ?_
  rintro _ _ ⟨rfl, rfl⟩
  refine LW.gtr false rfl rfl (decide_eq_false (by omega)) rfl ?_
  refine LW.assign rfl rfl ?_
  refine LW.nil ?_
  refine NW.then_ ?_
  refine CW.cond_false rfl ?_
  refine CW.seq ?_
  refine CW.region ?_
  refine LW.move rfl rfl ?_
  refine LW.ptrNil _ rfl Tryd.underlying27 rfl rfl ?_
  refine LW.move rfl rfl ?_
  refine LW.off 24 rfl rfl rfl rfl ?_
  refine LW.off 24 rfl rfl rfl rfl ?_
  refine LW.pickT rfl rfl rfl ?_
  refine LW.assign rfl rfl ?_
  refine LW.nil ?_
  refine NW.then_ ?_
  refine CW.cond_true rfl ?_
  refine CW.seq ?_
  refine CW.region ?_
  refine LW.assign rfl rfl ?_
  refine LW.nil ?_
  refine NW.then_ ?_
  refine CW.ret ?_
  refine NW.block_ret ?_
  refine NW.then_ret ?_
  refine NW.ret1 rfl rfl ⟨_, ⟨rfl, rfl⟩, ?_⟩
  exact Sub.nil _
theorem snapN_Get : Spec Tryd.prog W B 34 [.pointer none, .pointer none] [] (fun v post => v = .tuple #[.slice none 0 0, .int .i64 9] ∧ post = []) := by
  refine Spec.enter ([]) Tryd.func34 rfl Tryd.ntmps34 rfl (by first | rfl | simp) (fun w0 => ?_)
  refine CW.seq ?_
  refine CW.region ?_
  refine LW.assign rfl rfl ?_
  refine LW.assign rfl rfl ?_
  refine LW.nil ?_
  refine NW.then_ ?_
  refine CW.seq ?_
  refine CW.seq ?_
  refine CW.region ?_
  refine LW.move rfl rfl ?_
  refine LW.ptrNil _ rfl Tryd.underlying27 rfl rfl ?_
  refine LW.move rfl rfl ?_
  refine LW.off 14 rfl rfl rfl rfl ?_
  refine LW.off 14 rfl rfl rfl rfl ?_
  refine LW.pickT rfl rfl rfl ?_
  refine LW.nil ?_
  refine NW.then_ ?_
  refine CW.cond_true rfl ?_
  refine CW.seq ?_
  refine CW.region ?_
  refine LW.assign rfl rfl ?_
  refine LW.assign rfl rfl ?_
  refine LW.nil ?_
  refine NW.then_ ?_
  refine CW.ret ?_
  refine NW.then_ret ?_
  refine NW.ret2 rfl rfl rfl ⟨_, ⟨rfl, rfl⟩, ?_⟩
  exact Sub.nil _
theorem wal_Open_zero (p bn bw bl : Nat) : Spec Tryd.prog W B 28 [.pointer (some ⟨p, 0, none⟩)] (devC p bn bw bl 64 (DevS.zero 64)) (fun v post => v = .tuple #[.pointer none, .slice none 0 0, .int .i64 10] ∧ post = devC p bn bw bl 64 (DevS.zero 64)) := by
  refine (wal_Open W B p bn bw bl 64 _ (Rest.zero (by decide) (by decide)).ok).mono ?_
  rintro v post (⟨_, rfl, rfl⟩ | ⟨o, l, q, v2, vs, ch, ar, ho, _⟩)
  · exact ⟨rfl, rfl⟩
  · rw [openL_zero 64 (by decide)] at ho; cases ho
set_option maxHeartbeats 4000000 in
theorem law_KeptNone (h0 : 0 < B) (hg : W.cell? ⟨0, 0, none⟩ = some (rty 110)) :
    Spec Tryd.prog W B 5 [] [] (fun v post => v = .bool true ∧ post = []) := by
  refine Spec.enter ([]) Tryd.func5 rfl Tryd.ntmps5 rfl (by first | rfl | simp) (fun w0 => ?_)
  refine CW.seq ?_
  refine CW.region ?_
  refine LW.assign rfl rfl ?_
  refine LW.nil ?_
  refine NW.then_ ?_
  refine CW.seq ?_
  refine CW.region ?_
  refine LW.assign rfl rfl ?_
  refine LW.nil ?_
  refine NW.then_ ?_
  refine CW.seq ?_
  refine CW.region ?_
  refine LW.assign rfl rfl ?_
  refine LW.nil ?_
  refine NW.then_ ?_
  refine CW.seq ?_
  refine CW.region ?_
  refine LW.call (slotN_Make W B) Tryd.func32 rfl FactsNil4.fname32 ⟨rfl, rfl, trivial⟩ (Take.none _) rfl ?_
  rintro _ _ ⟨rfl, rfl⟩
  refine LW.move rfl rfl ?_
  refine LW.extract rfl rfl rfl ?_
  refine LW.extract rfl rfl rfl ?_
  refine LW.assign rfl rfl ?_
  refine LW.assign rfl rfl ?_
  refine LW.nil ?_
  refine NW.then_ ?_
  refine CW.seq ?_
  refine CW.region ?_
  refine LW.call (slotN_Open W B) Tryd.func33 rfl FactsNil4.fname33 ⟨rfl, trivial⟩ (Take.none _) rfl ?_
  rintro _ _ ⟨rfl, rfl⟩
  refine LW.move rfl rfl ?_
  refine LW.extract rfl rfl rfl ?_
  refine LW.extract rfl rfl rfl ?_
  refine LW.extract rfl rfl rfl ?_
  refine LW.assign rfl rfl ?_
  refine LW.assign rfl rfl ?_
  refine LW.assign rfl rfl ?_
  refine LW.nil ?_
  refine NW.then_ ?_
  refine CW.seq ?_
  refine CW.region ?_
  refine LW.call (walN_Make W B) Tryd.func22 rfl FactsNil4.fname22 ⟨rfl, trivial⟩ (Take.none _) rfl ?_
  rintro _ _ ⟨rfl, rfl⟩
  refine LW.move rfl rfl ?_
  refine LW.extract rfl rfl rfl ?_
  refine LW.extract rfl rfl rfl ?_
  refine LW.assign rfl rfl ?_
  refine LW.assign rfl rfl ?_
  refine LW.nil ?_
  refine NW.then_ ?_
  refine CW.seq ?_
  refine CW.region ?_
  refine LW.call (walN_Open W B) Tryd.func28 rfl FactsNil4.fname28 ⟨rfl, trivial⟩ (Take.none _) rfl ?_
  rintro _ _ ⟨rfl, rfl⟩
  refine LW.move rfl rfl ?_
  refine LW.extract rfl rfl rfl ?_
  refine LW.extract rfl rfl rfl ?_
  refine LW.extract rfl rfl rfl ?_
  refine LW.assign rfl rfl ?_
  refine LW.assign rfl rfl ?_
  refine LW.assign rfl rfl ?_
  refine LW.nil ?_
  refine NW.then_ ?_
  refine CW.seq ?_
  refine CW.region ?_
  refine LW.call (snapN_Get W B) Tryd.func34 rfl FactsNil4.fname34 ⟨rfl, rfl, trivial⟩ (Take.none _) rfl ?_
  rintro _ _ ⟨rfl, rfl⟩
  refine LW.move rfl rfl ?_
  refine LW.extract rfl rfl rfl ?_
  refine LW.extract rfl rfl rfl ?_
  refine LW.assign rfl rfl ?_
  refine LW.assign rfl rfl ?_
  refine LW.nil ?_
  refine NW.then_ ?_
  refine CW.seq ?_
  refine CW.region ?_
  refine LW.move rfl rfl ?_
  refine LW.call (walN_Area W B) Tryd.func31 rfl FactsNil4.fname31 ⟨rfl, trivial⟩ (Take.none _) rfl ?_
  rintro _ _ ⟨rfl, rfl⟩
  refine LW.move rfl rfl ?_
  refine LW.extract rfl rfl rfl ?_
  refine LW.extract rfl rfl rfl ?_
  refine LW.assign rfl rfl ?_
  refine LW.assign rfl rfl ?_
  refine LW.nil ?_
  refine NW.then_ ?_
  refine CW.seq ?_
  refine CW.region ?_
  refine LW.call (dev_New W B 64 (by omega) (by omega)) Tryd.func23 rfl FactsNil4.fname23 ⟨rfl, trivial⟩ (Take.none _) rfl ?_
  rintro _ _ ⟨p, bn, bw, bl, rfl, rfl⟩
  refine LW.buildSlice (vs := [_, _, _, _, _]) ⟨rfl, rfl, rfl, rfl, rfl, trivial⟩ rfl (by intro v hv; simp at hv; rcases hv with rfl | rfl | rfl | rfl | rfl <;> rfl) Tryd.underlying47 FactsNil4.info2 rfl (by decide) (by decide) rfl ?_
  intro bs51
  refine LW.call (slotN_Make5 W B p _ _) Tryd.func32 rfl FactsNil4.fname32 ⟨rfl, rfl, trivial⟩ (Take.none _) rfl ?_
  rintro _ _ ⟨rfl, rfl⟩
  refine LW.move rfl rfl ?_
  refine LW.extract rfl rfl rfl ?_
  refine LW.extract rfl rfl rfl ?_
  refine LW.assign rfl rfl ?_
  refine LW.assign rfl rfl ?_
  refine LW.nil ?_
  refine NW.then_ ?_
  refine CW.seq ?_
  refine CW.region ?_
  refine LW.call (dev_New W B 64 (by omega) (by omega)) Tryd.func23 rfl FactsNil4.fname23 ⟨rfl, trivial⟩ (Take.none _) rfl ?_
  rintro _ _ ⟨p2, bn2, bw2, bl2, rfl, rfl⟩
  refine LW.call (wal_Open_zero W B p2 bn2 bw2 bl2) Tryd.func28 rfl FactsNil4.fname28 ⟨rfl, trivial⟩ (by repeat (first | exact Take.head _ _ | apply Take.tail)) rfl ?_
  rintro _ _ ⟨rfl, rfl⟩
  refine LW.move rfl rfl ?_
  refine LW.extract rfl rfl rfl ?_
  refine LW.extract rfl rfl rfl ?_
  refine LW.extract rfl rfl rfl ?_
  refine LW.assign rfl rfl ?_
  refine LW.assign rfl rfl ?_
  refine LW.assign rfl rfl ?_
  refine LW.nil ?_
  refine NW.then_ ?_
  refine CW.seq ?_
  refine CW.region ?_
  refine LW.call (law_begun4 W B h0 hg) Tryd.func21 rfl FactsNil4.fname21 trivial (Take.none _) rfl ?_
  rintro _ _ ⟨rfl, rfl⟩
  refine LW.move rfl rfl ?_
  refine LW.on 62 rfl rfl ?_
  refine LW.move rfl rfl ?_
  refine LW.on 62 rfl rfl ?_
  refine LW.eql true rfl rfl (beq_iff_eq.2 (by omega)) rfl ?_
  refine LW.pickT rfl rfl rfl ?_
  refine LW.move rfl rfl ?_
  refine LW.on 66 rfl rfl ?_
  refine LW.move rfl rfl ?_
  refine LW.on 66 rfl rfl ?_
  refine LW.eql true rfl rfl (beq_iff_eq.2 (by omega)) rfl ?_
  refine LW.pickT rfl rfl rfl ?_
  refine LW.move rfl rfl ?_
  refine LW.on 70 rfl rfl ?_
  refine LW.move rfl rfl ?_
  refine LW.on 70 rfl rfl ?_
  refine LW.eql true rfl rfl (beq_iff_eq.2 (by omega)) rfl ?_
  refine LW.pickT rfl rfl rfl ?_
  refine LW.move rfl rfl ?_
  refine LW.on 74 rfl rfl ?_
  refine LW.move rfl rfl ?_
  refine LW.on 74 rfl rfl ?_
  refine LW.eql true rfl rfl (beq_iff_eq.2 (by omega)) rfl ?_
  refine LW.pickT rfl rfl rfl ?_
  refine LW.move rfl rfl ?_
  refine LW.on 78 rfl rfl ?_
  refine LW.move rfl rfl ?_
  refine LW.on 78 rfl rfl ?_
  refine LW.eql true rfl rfl (beq_iff_eq.2 (by omega)) rfl ?_
  refine LW.pickT rfl rfl rfl ?_
  refine LW.move rfl rfl ?_
  refine LW.on 82 rfl rfl ?_
  refine LW.move rfl rfl ?_
  refine LW.on 82 rfl rfl ?_
  refine LW.buildSlice (vs := [_]) ⟨rfl, trivial⟩ rfl (by intro v hv; simp at hv; subst hv; rfl) Tryd.underlying47 FactsNil4.info2 rfl (by decide) (by decide) rfl ?_
  intro bs84
  refine LW.on 82 rfl rfl ?_
  refine LW.call (slotN_Set W B _ _ _) Tryd.func35 rfl FactsNil4.fname35 ⟨rfl, rfl, trivial⟩ (Take.none _) rfl ?_
  rintro _ _ ⟨rfl, rfl⟩
  refine LW.on 82 rfl rfl ?_
  refine LW.eql true rfl rfl (beq_iff_eq.2 (by omega)) rfl ?_
  refine LW.pickT rfl rfl rfl ?_
  refine LW.move rfl rfl ?_
  refine LW.on 88 rfl rfl ?_
  refine LW.move rfl rfl ?_
  refine LW.on 88 rfl rfl ?_
  refine LW.buildSlice (vs := [_]) ⟨rfl, trivial⟩ rfl (by intro v hv; simp at hv; subst hv; rfl) Tryd.underlying31 FactsNil4.info5 rfl (by decide) (by decide) rfl ?_
  intro bs90
  refine LW.on 88 rfl rfl ?_
  refine LW.mark rfl Tryd.underlying31 Tryd.underlying5 (by repeat (first | exact Take.head _ _ | apply Take.tail)) rfl ?_
  refine LW.on 88 rfl rfl ?_
  refine LW.call (walN_Append W B _ _ _) Tryd.func25 rfl FactsNil4.fname25 ⟨rfl, rfl, trivial⟩ (Take.none _) rfl ?_
  rintro _ _ ⟨rfl, rfl⟩
  refine LW.on 88 rfl rfl ?_
  refine LW.eql true rfl rfl (beq_iff_eq.2 (by omega)) rfl ?_
  refine LW.pickT rfl rfl rfl ?_
  refine LW.move rfl rfl ?_
  refine LW.on 95 rfl rfl ?_
  refine LW.move rfl rfl ?_
  refine LW.on 95 rfl rfl ?_
  refine LW.call (walN_Reset W B 1 1) Tryd.func27 rfl FactsNil4.fname27 ⟨rfl, rfl, rfl, trivial⟩ (Take.none _) rfl ?_
  rintro _ _ ⟨rfl, rfl⟩
  refine LW.on 95 rfl rfl ?_
  refine LW.eql true rfl rfl (beq_iff_eq.2 (by omega)) rfl ?_
  refine LW.pickT rfl rfl rfl ?_
  refine LW.move rfl rfl ?_
  refine LW.on 100 rfl rfl ?_
  refine LW.move rfl rfl ?_
  refine LW.on 100 rfl rfl ?_
  refine LW.call (walN_Room W B) Tryd.func24 rfl FactsNil4.fname24 ⟨rfl, trivial⟩ (Take.none _) rfl ?_
  rintro _ _ ⟨rfl, rfl⟩
  refine LW.on 100 rfl rfl ?_
  refine LW.eql true rfl rfl (beq_iff_eq.2 (by omega)) rfl ?_
  refine LW.pickT rfl rfl rfl ?_
  refine LW.move rfl rfl ?_
  refine LW.on 105 rfl rfl ?_
  refine LW.move rfl rfl ?_
  refine LW.on 105 rfl rfl ?_
  refine LW.eql true rfl rfl (beq_iff_eq.2 (by omega)) rfl ?_
  refine LW.pickT rfl rfl rfl ?_
  refine LW.move rfl rfl ?_
  refine LW.on 109 rfl rfl ?_
  refine LW.move rfl rfl ?_
  refine LW.on 109 rfl rfl ?_
  refine LW.eql true rfl rfl (beq_iff_eq.2 (by omega)) rfl ?_
  refine LW.pickT rfl rfl rfl ?_
  refine LW.move rfl rfl ?_
  refine LW.on 113 rfl rfl ?_
  refine LW.call (snapN_Most W B) Tryd.func36 rfl FactsNil4.fname36 ⟨rfl, trivial⟩ (Take.none _) rfl ?_
  rintro _ _ ⟨rfl, rfl⟩
  refine LW.on 113 rfl rfl ?_
  refine LW.eql true rfl rfl (beq_iff_eq.2 (by omega)) rfl ?_
  refine LW.pickT rfl rfl rfl ?_
  refine LW.move rfl rfl ?_
  refine LW.on 117 rfl rfl ?_
  refine LW.call (snapN_Put W B) Tryd.func37 rfl FactsNil4.fname37 ⟨rfl, rfl, rfl, trivial⟩ (Take.none _) rfl ?_
  rintro _ _ ⟨rfl, rfl⟩
  refine LW.on 117 rfl rfl ?_
  refine LW.eql true rfl rfl (beq_iff_eq.2 (by omega)) rfl ?_
  refine LW.pickT rfl rfl rfl ?_
  refine LW.move rfl rfl ?_
  refine LW.on 121 rfl rfl ?_
  refine LW.move rfl rfl ?_
  refine LW.on 121 rfl rfl ?_
  refine LW.eql true rfl rfl (beq_iff_eq.2 (by omega)) rfl ?_
  refine LW.pickT rfl rfl rfl ?_
  refine LW.move rfl rfl ?_
  refine LW.on 125 rfl rfl ?_
  refine LW.move rfl rfl ?_
  refine LW.on 125 rfl rfl ?_
  refine LW.eql true rfl rfl (beq_iff_eq.2 (by omega)) rfl ?_
  refine LW.pickT rfl rfl rfl ?_
  refine LW.assign rfl rfl ?_
  refine LW.nil ?_
  refine NW.then_ ?_
  refine CW.ret ?_
  refine NW.ret1 rfl rfl ⟨_, ⟨rfl, rfl⟩, ?_⟩
  exact Sub.nil _
end
end Go.Proofs.YtpnhonhjheahhaaDoor
