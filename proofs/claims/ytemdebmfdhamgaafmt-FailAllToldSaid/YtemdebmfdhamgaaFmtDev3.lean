/-
  A DEVICE WRITTEN AND FLUSHED; which sectors are loose.
-/
import Derived.Test.YtemdebmfdhamgaaFmtDev2
namespace Go.Proofs.YtemdebmfdhamgaaFmt
open Go.RowKit
namespace FactsDev3
theorem fa82_0 (b o : Nat) (w : World) : (Instr.fieldAt 82 (.pointer (some ⟨b, o, none⟩)) 0).run Tryf.prog w = .ok (.pointer (some ⟨b, o, none⟩)) w := by kernel_rfl
theorem fa82_1 (b o : Nat) (w : World) : (Instr.fieldAt 82 (.pointer (some ⟨b, o, none⟩)) 1).run Tryf.prog w = .ok (.pointer (some ⟨b, o + 1, none⟩)) w := by kernel_rfl
theorem fa82_2 (b o : Nat) (w : World) : (Instr.fieldAt 82 (.pointer (some ⟨b, o, none⟩)) 2).run Tryf.prog w = .ok (.pointer (some ⟨b, o + 2, none⟩)) w := by kernel_rfl
theorem fname15 : (Tryf.f15.name == "runtime.NumGoroutine") = false := by kernel_rfl
theorem fname33 : (Tryf.f33.name == "runtime.NumGoroutine") = false := by kernel_rfl
theorem fname34 : (Tryf.f34.name == "runtime.NumGoroutine") = false := by kernel_rfl
theorem fname35 : (Tryf.f35.name == "runtime.NumGoroutine") = false := by kernel_rfl
theorem fname36 : (Tryf.f36.name == "runtime.NumGoroutine") = false := by kernel_rfl
theorem fname42 : (Tryf.f42.name == "runtime.NumGoroutine") = false := by kernel_rfl
theorem info3 : (Tryf.prog.info? 3).map (fun i => (i.zero, i.size, i.bytes)) = some (some (.int .i64 0), 1, 8) := by kernel_rfl
theorem ixs79 : (Tryf.prog.info? 85).map (·.size) = some 64 := by kernel_rfl
theorem ixs80 : (Tryf.prog.info? 4).map (·.size) = some 1 := by kernel_rfl
theorem ixs86 : (Tryf.prog.info? 3).map (·.size) = some 1 := by kernel_rfl
theorem mixed : Tryf.prog.follows .mixedOrders = true := by kernel_rfl
theorem one3 : oneB Tryf.prog 3 = true := by kernel_rfl
theorem one4 : oneB Tryf.prog 4 = true := by kernel_rfl
theorem one79 : oneB Tryf.prog 79 = true := by kernel_rfl
theorem one80 : oneB Tryf.prog 80 = true := by kernel_rfl
theorem sz4 : (Tryf.prog.info? 4).map (·.size) = some 1 := by kernel_rfl
theorem szt5 : (Tryf.prog.info? 5).map (·.size) = some 1 := by kernel_rfl
theorem szt85 : (Tryf.prog.info? 85).map (·.size) = some 64 := by kernel_rfl
end FactsDev3
section
variable (W : World) (B : Nat)

theorem dev_Write_ok (p bn bw bl n : Nat) (s : DevS) (hs : s.Ok n) (i : Nat) (hi : i < n) (hd : s.down = false) (src : List Row) (A : Option Addr) (cp : Nat) (b : List UInt8) (hb : b.length = 64) (hsrc : Src W B src A (b.map u8v)) :
    Spec Tryf.prog W B 16 [.pointer (some ⟨p, 0, none⟩), .int .i64 (i : Int), .slice A 64 cp] (src ++ devC p bn bw bl n s) (fun v post => v = .int .i64 0 ∧ post = src ++ devC p bn bw bl n (s.put i b).burn) := by
  have hin : isB n (i : Int) = true := by simp [isB, hi]
  have hA : A = none → 64 = 0 := fun h0 => by
    subst h0
    rcases hsrc with h | ⟨a, h, _⟩
    · have := congrArg List.length h; simp [hb] at this
    · cases h
  have hml : (s.loose.map Value.bool).set i (.bool true) = (s.put i b).loose.map Value.bool := by simp [DevS.put, List.map_set]
  refine Spec.enter (src :: [[cr p 82 (devHead bn bw bl n s)], [cr bn 85 (secV s.now)], [cr bw 85 (secV s.was)], [cr bl 4 (s.loose.map .bool)]]) Tryf.func16 rfl Tryf.ntmps16 rfl (by first | rfl | simp [devC]) (fun w0 => ?_)
  refine CW.seq ?_
  refine CW.region ?_
  refine LW.assign rfl rfl ?_
  refine LW.nil ?_
  refine NW.then_ ?_
  refine CW.seq ?_
  refine CW.block ?_
  refine CW.seq ?_
  refine CW.region ?_
  refine LW.move rfl rfl ?_
  refine LW.call (dev_Down _ _ p bn bw bl n s) Tryf.func33 rfl FactsDev3.fname33 ⟨rfl, trivial⟩ ((Take.four (by repeat (first | exact Take.head _ _ | apply Take.tail)) (by repeat (first | exact Take.head _ _ | apply Take.tail)) (by repeat (first | exact Take.head _ _ | apply Take.tail)) (by repeat (first | exact Take.head _ _ | apply Take.tail)))) rfl ?_
  rintro _ _ ⟨rfl, rfl⟩; rw [hd]; refine LW.open4 ?_
  refine LW.assign rfl rfl ?_
  refine LW.nil ?_
  refine NW.then_ ?_
  refine CW.cond_false rfl ?_
  refine CW.seq ?_
  refine CW.region ?_
  refine LW.move rfl rfl ?_
  refine LW.move rfl rfl ?_
  refine LW.call (dev_is _ _ p bn bw bl n s i) Tryf.func34 rfl FactsDev3.fname34 ⟨rfl, rfl, trivial⟩ ((Take.four (by repeat (first | exact Take.head _ _ | apply Take.tail)) (by repeat (first | exact Take.head _ _ | apply Take.tail)) (by repeat (first | exact Take.head _ _ | apply Take.tail)) (by repeat (first | exact Take.head _ _ | apply Take.tail)))) rfl ?_
  rintro _ _ ⟨rfl, rfl⟩; rw [hin]; refine LW.open4 ?_
  refine LW.not (false) rfl (rfl) rfl ?_
  refine LW.assign rfl rfl ?_
  refine LW.nil ?_
  refine NW.then_ ?_
  refine CW.cond_false rfl ?_
  refine CW.seq ?_
  refine CW.region ?_
  refine LW.move rfl rfl ?_
  refine LW.lenSlice rfl Tryf.underlying41 rfl ?_
  refine LW.neq false rfl rfl (bne_eq_false_iff_eq.2 (by omega)) rfl ?_
  refine LW.assign rfl rfl ?_
  refine LW.nil ?_
  refine NW.then_ ?_
  refine CW.cond_false rfl ?_
  refine CW.skip ?_
  refine NW.block ?_
  refine NW.then_ ?_
  refine CW.seq ?_
  refine CW.region ?_
  refine LW.move rfl rfl ?_
  refine LW.nilPtr rfl rfl ?_
  refine LW.fieldAddr _ rfl (fun _ => FactsDev3.fa82_0 _ _ _) rfl ?_
  refine LW.load rfl (by repeat (first | exact Take.head _ _ | apply Take.tail)) rfl FactsDev3.one79 rfl ?_
  refine LW.move rfl rfl ?_
  refine LW.indexAddr (i * 64) rfl rfl Tryf.underlying79 FactsDev3.ixs79 (by omega) (by omega) (by simp) rfl ?_
  refine LW.cutArr rfl Tryf.underlying85 FactsDev3.szt5 rfl ?_
  refine LW.move rfl rfl ?_
  refine LW.copy (b.map u8v) (secV (s.now.set i b)) rfl rfl Tryf.underlying41 FactsDev3.szt5 (by repeat (first | exact Take.head _ _ | apply Take.tail)) (hsrc.rd (by repeat (first | exact Take.head _ _ | apply Take.tail))) (by simp [hb]) (hA) (by rw [secV_len hs.now, List.length_map, hb]; omega) (u8vs_one _) (secV_set hs.now hi hb rfl (by rw [List.length_map, hb])) rfl ?_
  refine LW.nil ?_
  refine NW.then_ ?_
  refine CW.seq ?_
  refine CW.region ?_
  refine LW.move rfl rfl ?_
  refine LW.nilPtr rfl rfl ?_
  refine LW.fieldAddr _ rfl (fun _ => FactsDev3.fa82_2 _ _ _) rfl ?_
  refine LW.load rfl (by repeat (first | exact Take.head _ _ | apply Take.tail)) rfl FactsDev3.one80 rfl ?_
  refine LW.move rfl rfl ?_
  refine LW.indexAddr (i) rfl rfl Tryf.underlying80 FactsDev3.ixs80 (by omega) (by omega) (by simp) rfl ?_
  refine LW.store rfl rfl (by repeat (first | exact Take.head _ _ | apply Take.tail)) (by rw [List.length_map, hs.loose]; exact hi) FactsDev3.sz4 (rfl) ?_
  rw [hml]
  refine LW.nil ?_
  refine NW.then_ ?_
  refine CW.seq ?_
  refine CW.region ?_
  refine LW.move rfl rfl ?_
  refine LW.call (dev_burns _ _ p bn bw bl n (s.put i b) (hs.put hb) hd) Tryf.func35 rfl FactsDev3.fname35 ⟨rfl, trivial⟩ ((Take.four (by repeat (first | exact Take.head _ _ | apply Take.tail)) (by repeat (first | exact Take.head _ _ | apply Take.tail)) (by repeat (first | exact Take.head _ _ | apply Take.tail)) (by repeat (first | exact Take.head _ _ | apply Take.tail)))) rfl ?_
  rintro _ _ ⟨rfl, rfl⟩
  refine LW.nil ?_
  refine NW.then_ ?_
  refine CW.seq ?_
  refine CW.region ?_
  refine LW.assign rfl rfl ?_
  refine LW.nil ?_
  refine NW.then_ ?_
  refine CW.ret ?_
  refine NW.ret1 rfl rfl ⟨_, ⟨rfl, rfl⟩, ?_⟩
  exact Sub.take (p := src) (by repeat (first | exact Take.head _ _ | apply Take.tail)) (Sub.one (by repeat (first | exact Take.head _ _ | apply Take.tail)))

theorem dev_Write_no (p bn bw bl n : Nat) (s : DevS) (i : Int) (A : Option Addr) (l cp : Nat) (he : s.err n i l ≠ 0) :
    Spec Tryf.prog W B 16 [.pointer (some ⟨p, 0, none⟩), .int .i64 i, .slice A l cp] (devC p bn bw bl n s) (fun v post => v = .int .i64 (s.err n i l) ∧ post = devC p bn bw bl n s) := by
  unfold DevS.err at he ⊢
  cases hd : s.down
  · cases hin : isB n i
    · simp only [Bool.false_eq_true, if_false]
      refine Spec.enter ([[cr p 82 (devHead bn bw bl n s)], [cr bn 85 (secV s.now)], [cr bw 85 (secV s.was)], [cr bl 4 (s.loose.map .bool)]]) Tryf.func16 rfl Tryf.ntmps16 rfl (by first | rfl | simp [devC]) (fun w0 => ?_)
      refine CW.seq ?_
      refine CW.region ?_
      refine LW.assign rfl rfl ?_
      refine LW.nil ?_
      refine NW.then_ ?_
      refine CW.seq ?_
      refine CW.block ?_
      refine CW.seq ?_
      refine CW.region ?_
      refine LW.move rfl rfl ?_
      refine LW.call (dev_Down _ _ p bn bw bl n s) Tryf.func33 rfl FactsDev3.fname33 ⟨rfl, trivial⟩ ((Take.four (by repeat (first | exact Take.head _ _ | apply Take.tail)) (by repeat (first | exact Take.head _ _ | apply Take.tail)) (by repeat (first | exact Take.head _ _ | apply Take.tail)) (by repeat (first | exact Take.head _ _ | apply Take.tail)))) rfl ?_
      rintro _ _ ⟨rfl, rfl⟩; rw [hd]; refine LW.open4 ?_
      refine LW.assign rfl rfl ?_
      refine LW.nil ?_
      refine NW.then_ ?_
      refine CW.cond_false rfl ?_
      refine CW.seq ?_
      refine CW.region ?_
      refine LW.move rfl rfl ?_
      refine LW.move rfl rfl ?_
      refine LW.call (dev_is _ _ p bn bw bl n s i) Tryf.func34 rfl FactsDev3.fname34 ⟨rfl, rfl, trivial⟩ ((Take.four (by repeat (first | exact Take.head _ _ | apply Take.tail)) (by repeat (first | exact Take.head _ _ | apply Take.tail)) (by repeat (first | exact Take.head _ _ | apply Take.tail)) (by repeat (first | exact Take.head _ _ | apply Take.tail)))) rfl ?_
      rintro _ _ ⟨rfl, rfl⟩; rw [hin]; refine LW.open4 ?_
      refine LW.not (true) rfl (rfl) rfl ?_
      refine LW.assign rfl rfl ?_
      refine LW.nil ?_
      refine NW.then_ ?_
      refine CW.cond_true rfl ?_
      refine CW.seq ?_
      refine CW.region ?_
      refine LW.assign rfl rfl ?_
      refine LW.nil ?_
      refine NW.then_ ?_
      refine CW.ret ?_
      refine NW.block_ret ?_
      refine NW.then_ret ?_
      refine NW.ret1 rfl rfl ⟨_, ⟨rfl, rfl⟩, ?_⟩
      exact Sub.four (by repeat (first | exact Take.head _ _ | apply Take.tail)) (by repeat (first | exact Take.head _ _ | apply Take.tail)) (by repeat (first | exact Take.head _ _ | apply Take.tail)) (by repeat (first | exact Take.head _ _ | apply Take.tail))
    · simp only [hd, hin, Bool.false_eq_true, if_false, if_true] at he ⊢
      have hl : l ≠ 64 := fun h => by simp [h] at he
      rw [if_neg hl]
      refine Spec.enter ([[cr p 82 (devHead bn bw bl n s)], [cr bn 85 (secV s.now)], [cr bw 85 (secV s.was)], [cr bl 4 (s.loose.map .bool)]]) Tryf.func16 rfl Tryf.ntmps16 rfl (by first | rfl | simp [devC]) (fun w0 => ?_)
      refine CW.seq ?_
      refine CW.region ?_
      refine LW.assign rfl rfl ?_
      refine LW.nil ?_
      refine NW.then_ ?_
      refine CW.seq ?_
      refine CW.block ?_
      refine CW.seq ?_
      refine CW.region ?_
      refine LW.move rfl rfl ?_
      refine LW.call (dev_Down _ _ p bn bw bl n s) Tryf.func33 rfl FactsDev3.fname33 ⟨rfl, trivial⟩ ((Take.four (by repeat (first | exact Take.head _ _ | apply Take.tail)) (by repeat (first | exact Take.head _ _ | apply Take.tail)) (by repeat (first | exact Take.head _ _ | apply Take.tail)) (by repeat (first | exact Take.head _ _ | apply Take.tail)))) rfl ?_
      rintro _ _ ⟨rfl, rfl⟩; rw [hd]; refine LW.open4 ?_
      refine LW.assign rfl rfl ?_
      refine LW.nil ?_
      refine NW.then_ ?_
      refine CW.cond_false rfl ?_
      refine CW.seq ?_
      refine CW.region ?_
      refine LW.move rfl rfl ?_
      refine LW.move rfl rfl ?_
      refine LW.call (dev_is _ _ p bn bw bl n s i) Tryf.func34 rfl FactsDev3.fname34 ⟨rfl, rfl, trivial⟩ ((Take.four (by repeat (first | exact Take.head _ _ | apply Take.tail)) (by repeat (first | exact Take.head _ _ | apply Take.tail)) (by repeat (first | exact Take.head _ _ | apply Take.tail)) (by repeat (first | exact Take.head _ _ | apply Take.tail)))) rfl ?_
      rintro _ _ ⟨rfl, rfl⟩; rw [hin]; refine LW.open4 ?_
      refine LW.not (false) rfl (rfl) rfl ?_
      refine LW.assign rfl rfl ?_
      refine LW.nil ?_
      refine NW.then_ ?_
      refine CW.cond_false rfl ?_
      refine CW.seq ?_
      refine CW.region ?_
      refine LW.move rfl rfl ?_
      refine LW.lenSlice rfl Tryf.underlying41 rfl ?_
      refine LW.neq true rfl rfl (bne_iff_ne.2 (by omega)) rfl ?_
      refine LW.assign rfl rfl ?_
      refine LW.nil ?_
      refine NW.then_ ?_
      refine CW.cond_true rfl ?_
      refine CW.seq ?_
      refine CW.region ?_
      refine LW.assign rfl rfl ?_
      refine LW.nil ?_
      refine NW.then_ ?_
      refine CW.ret ?_
      refine NW.block_ret ?_
      refine NW.then_ret ?_
      refine NW.ret1 rfl rfl ⟨_, ⟨rfl, rfl⟩, ?_⟩
      exact Sub.four (by repeat (first | exact Take.head _ _ | apply Take.tail)) (by repeat (first | exact Take.head _ _ | apply Take.tail)) (by repeat (first | exact Take.head _ _ | apply Take.tail)) (by repeat (first | exact Take.head _ _ | apply Take.tail))
  · simp only [if_true]
    refine Spec.enter ([[cr p 82 (devHead bn bw bl n s)], [cr bn 85 (secV s.now)], [cr bw 85 (secV s.was)], [cr bl 4 (s.loose.map .bool)]]) Tryf.func16 rfl Tryf.ntmps16 rfl (by first | rfl | simp [devC]) (fun w0 => ?_)
    refine CW.seq ?_
    refine CW.region ?_
    refine LW.assign rfl rfl ?_
    refine LW.nil ?_
    refine NW.then_ ?_
    refine CW.seq ?_
    refine CW.block ?_
    refine CW.seq ?_
    refine CW.region ?_
    refine LW.move rfl rfl ?_
    refine LW.call (dev_Down _ _ p bn bw bl n s) Tryf.func33 rfl FactsDev3.fname33 ⟨rfl, trivial⟩ ((Take.four (by repeat (first | exact Take.head _ _ | apply Take.tail)) (by repeat (first | exact Take.head _ _ | apply Take.tail)) (by repeat (first | exact Take.head _ _ | apply Take.tail)) (by repeat (first | exact Take.head _ _ | apply Take.tail)))) rfl ?_
    rintro _ _ ⟨rfl, rfl⟩; rw [hd]; refine LW.open4 ?_
    refine LW.assign rfl rfl ?_
    refine LW.nil ?_
    refine NW.then_ ?_
    refine CW.cond_true rfl ?_
    refine CW.seq ?_
    refine CW.region ?_
    refine LW.assign rfl rfl ?_
    refine LW.nil ?_
    refine NW.then_ ?_
    refine CW.ret ?_
    refine NW.block_ret ?_
    refine NW.then_ret ?_
    refine NW.ret1 rfl rfl ⟨_, ⟨rfl, rfl⟩, ?_⟩
    exact Sub.four (by repeat (first | exact Take.head _ _ | apply Take.tail)) (by repeat (first | exact Take.head _ _ | apply Take.tail)) (by repeat (first | exact Take.head _ _ | apply Take.tail)) (by repeat (first | exact Take.head _ _ | apply Take.tail))

theorem dev_Loose (p bn bw bl n : Nat) (s : DevS) (hs : s.Ok n) :
    Spec Tryf.prog W B 36 [.pointer (some ⟨p, 0, none⟩)] (devC p bn bw bl n s)
      (fun v post => ∃ ch, OwnS 3 1 v (looseTo s n).length ((looseTo s n).map intV) ch ∧ post = ch ++ devC p bn bw bl n s) := by
  have hn := hs.n1
  have hlt : ∀ k, k < n → (s.loose.map Value.bool)[k]? = some (.bool (s.loose.getD k false)) := fun k hk => by
    have : k < s.loose.length := by rw [hs.loose]; exact hk
    simp [List.getD, List.getElem?_eq_getElem this]
  refine Spec.enter ([[cr p 82 (devHead bn bw bl n s)], [cr bn 85 (secV s.now)], [cr bw 85 (secV s.was)], [cr bl 4 (s.loose.map .bool)]]) Tryf.func36 rfl Tryf.ntmps36 rfl (by first | rfl | simp [devC]) (fun w0 => ?_)
  refine CW.seq ?_
  refine CW.region ?_
  refine LW.assign rfl rfl ?_
  refine LW.nil ?_
  refine NW.then_ ?_
  refine CW.seq ?_
  refine CW.region ?_
  refine LW.assign rfl rfl ?_
  refine LW.nil ?_
  refine NW.then_ ?_
  refine CW.seq ?_
  refine CW.seq ?_
  refine CW.region ?_
  refine LW.move rfl rfl ?_
  refine LW.call (dev_Sectors _ _ p bn bw bl n s) Tryf.func42 rfl FactsDev3.fname42 ⟨rfl, trivial⟩ ((Take.four (by repeat (first | exact Take.head _ _ | apply Take.tail)) (by repeat (first | exact Take.head _ _ | apply Take.tail)) (by repeat (first | exact Take.head _ _ | apply Take.tail)) (by repeat (first | exact Take.head _ _ | apply Take.tail)))) rfl ?_
  rintro _ _ ⟨rfl, rfl⟩; refine LW.open4 ?_
  refine LW.move rfl rfl ?_
  refine LW.nil ?_
  refine NW.then_ ?_
  refine CW.block ?_
  refine CW.loop (fun st : Nat × Value × List Row => [(7, .int .i64 (st.1 : Int)), (6, .int .i64 (n : Int)), (3, st.2.1), (0, .pointer (some ⟨p, 0, none⟩))]) (fun st => st.2.2 :: [[cr p 82 (devHead bn bw bl n s)], [cr bn 85 (secV s.now)], [cr bw 85 (secV s.was)], [cr bl 4 (s.loose.map .bool)]]) (fun st => st.1 ≤ n ∧ OwnS 3 1 st.2.1 (looseTo s st.1).length ((looseTo s st.1).map intV) st.2.2) (fun st => n - st.1) (0, .slice none 0 0, []) ?st3_j ?st3_e ?st3_h ?st3_r
  case st3_j => exact ⟨Nat.zero_le _, OwnS.nil⟩
  case st3_e => repeat (first | exact Env.Le.nil _ | refine Env.Le.cons rfl ?_)
  case st3_h => repeat (first | exact Sub.heap_nil _ | exact Sub.refl _ | refine Sub.heap_cons (Take.none _) ?_ | refine Sub.heap_cons (by repeat (first | exact Take.head _ _ | apply Take.tail)) ?_)
  case st3_r =>
    rintro ⟨k, v, ch⟩ ⟨hk, ho⟩; dsimp only at hk ho
    refine CW.seq ?_
    refine CW.region ?_
    refine LW.lss (decide ((k : Int) < (n : Int))) rfl rfl (rfl) rfl ?_
    refine LW.nil ?_
    refine NW.then_ ?_
    refine CW.seq ?_
    refine CW.cond rfl (fun hc8 => ?_) (fun hc8 => ?_)
    · have hkn : k < n := by simpa using hc8
      refine CW.skip ?_
      refine NW.then_ ?_
      refine CW.seq ?_
      refine CW.block ?_
      refine CW.seq ?_
      refine CW.region ?_
      refine LW.move rfl rfl ?_
      refine LW.assign rfl rfl ?_
      refine LW.nil ?_
      refine NW.then_ ?_
      refine CW.seq ?_
      refine CW.region ?_
      refine LW.move rfl rfl ?_
      refine LW.nilPtr rfl rfl ?_
      refine LW.fieldAddr _ rfl (fun _ => FactsDev3.fa82_2 _ _ _) rfl ?_
      refine LW.load rfl (by repeat (first | exact Take.head _ _ | apply Take.tail)) rfl FactsDev3.one80 rfl ?_
      refine LW.move rfl rfl ?_
      refine LW.indexAddr (k) rfl rfl Tryf.underlying80 FactsDev3.ixs80 (by omega) (by omega) (by simp) rfl ?_
      refine LW.load (v := .bool (s.loose.getD k false)) rfl (by repeat (first | exact Take.head _ _ | apply Take.tail)) (hlt k hkn) FactsDev3.one4 rfl ?_
      refine LW.nil ?_
      refine NW.then_ ?_
      refine CW.cond rfl (fun hc16 => ?_) (fun hc16 => ?_)
      · have hsu : looseTo s (k + 1) = looseTo s k ++ [k] := by rw [looseTo_succ, hc16]; rfl
        have hll := looseTo_len s k
        refine CW.region ?_
        refine LW.move rfl rfl ?_
        refine LW.move rfl rfl ?_
        refine LW.buildSlice (vs := [_]) ⟨rfl, trivial⟩ rfl (by intro v hv; simp at hv; subst hv; rfl) Tryf.underlying86 FactsDev3.info3 rfl (by decide) (by decide) rfl ?_
        intro bs19
        refine LW.append ([.int .i64 (k : Int)]) rfl rfl Tryf.underlying86 Tryf.underlying86 (.inr ⟨_, rfl⟩) FactsDev3.info3 rfl (ho) (by repeat (first | exact Take.head _ _ | apply Take.tail)) (fun _ => lenOf_slice _ _ _ _) (first_rd (RdAt.row (by repeat (first | exact Take.head _ _ | apply Take.tail)) (fun j v hj => by simpa using hj)) rfl (fun h => (by cases h))) (rfl) (by intro u hu; simp at hu; subst hu; rfl) (by omega) (by omega) rfl ?_
        intro v' ch' ho'
        refine LW.assign rfl rfl ?_
        refine LW.nil ?_
        refine NW.block ?_
        refine NW.then_ ?_
        refine CW.region ?_
        refine LW.add ((k + 1 : Int)) rfl rfl (by first | rfl | exact wr64 (by omega) (by omega) (by omega)) rfl ?_
        refine LW.move rfl rfl ?_
        refine LW.nil ?_
        refine NW.meet ((k + 1, v', ch')) ?j1 ?e1 ?h1
        case j1 => exact ⟨⟨hkn, by rw [hsu]; simpa [intV] using ho'⟩, by simp only; omega⟩
        case e1 => repeat (first | exact Env.Le.nil _ | refine Env.Le.cons rfl ?_)
        case h1 => repeat (first | exact Sub.heap_nil _ | exact Sub.refl _ | refine Sub.heap_cons (Take.none _) ?_ | refine Sub.heap_cons (by repeat (first | exact Take.head _ _ | apply Take.tail)) ?_)
      · have hsu : looseTo s (k + 1) = looseTo s k := by rw [looseTo_succ, hc16]; simp
        refine CW.skip ?_
        refine NW.block ?_
        refine NW.then_ ?_
        refine CW.region ?_
        refine LW.add ((k + 1 : Int)) rfl rfl (by first | rfl | exact wr64 (by omega) (by omega) (by omega)) rfl ?_
        refine LW.move rfl rfl ?_
        refine LW.nil ?_
        refine NW.meet ((k + 1, v, ch)) ?j2 ?e2 ?h2
        case j2 => exact ⟨⟨hkn, by rw [hsu]; exact ho⟩, by simp only; omega⟩
        case e2 => repeat (first | exact Env.Le.nil _ | refine Env.Le.cons rfl ?_)
        case h2 => repeat (first | exact Sub.heap_nil _ | exact Sub.refl _ | refine Sub.heap_cons (Take.none _) ?_ | refine Sub.heap_cons (by repeat (first | exact Take.head _ _ | apply Take.tail)) ?_)
    · have hkn : k = n := by have := of_decide_eq_false hc8; omega
      subst hkn
      refine CW.exit ?_
      refine NW.then_exit ?_
      refine NW.then_exit ?_
      refine NW.block_exit ?_
      refine NW.then_ ?_
      refine CW.seq ?_
      refine CW.region ?_
      refine LW.move rfl rfl ?_
      refine LW.assign rfl rfl ?_
      refine LW.nil ?_
      refine NW.then_ ?_
      refine CW.ret ?_
      refine NW.ret1 rfl rfl ⟨_, ⟨ch, ho, rfl⟩, ?_⟩
      exact Sub.take (p := ch) (by repeat (first | exact Take.head _ _ | apply Take.tail)) (Sub.four (by repeat (first | exact Take.head _ _ | apply Take.tail)) (by repeat (first | exact Take.head _ _ | apply Take.tail)) (by repeat (first | exact Take.head _ _ | apply Take.tail)) (by repeat (first | exact Take.head _ _ | apply Take.tail)))

theorem dev_Crash (p bn bw bl n : Nat) (s : DevS) (hs : s.Ok n) (src : List Row) (A : Option Addr) (cp : Nat) (keep : List Bool) (hsrc : Src W B src A (keep.map .bool)) :
    Spec Tryf.prog W B 17 [.pointer (some ⟨p, 0, none⟩), .slice A keep.length cp] (src ++ devC p bn bw bl n s)
      (fun v post => ∃ q qn qw ql, v = .pointer (some ⟨q, 0, none⟩) ∧ post = src ++ (devC p bn bw bl n s ++ devC q qn qw ql n (s.crash n keep))) := by
  have hn := hs.n1
  have hlL := looseTo_len s n
  refine Spec.enter (src :: [[cr p 82 (devHead bn bw bl n s)], [cr bn 85 (secV s.now)], [cr bw 85 (secV s.was)], [cr bl 4 (s.loose.map .bool)]]) Tryf.func17 rfl Tryf.ntmps17 rfl (by first | rfl | simp [devC]) (fun w0 => ?_)
  refine CW.seq ?_
  refine CW.region ?_
  refine LW.assign rfl rfl ?_
  refine LW.nil ?_
  refine NW.then_ ?_
  refine CW.seq ?_
  refine CW.seq ?_
  refine CW.region ?_
  refine LW.move rfl rfl ?_
  refine LW.ptrNil _ rfl Tryf.underlying39 rfl rfl ?_
  refine LW.nil ?_
  refine NW.then_ ?_
  refine CW.cond_false rfl ?_
  refine CW.skip ?_
  refine NW.then_ ?_
  refine CW.seq ?_
  refine CW.region ?_
  refine LW.move rfl rfl ?_
  refine LW.nilPtr rfl rfl ?_
  refine LW.fieldAddr _ rfl (fun _ => FactsDev3.fa82_0 _ _ _) rfl ?_
  refine LW.load rfl (by repeat (first | exact Take.head _ _ | apply Take.tail)) rfl FactsDev3.one79 rfl ?_
  refine LW.lenSlice rfl Tryf.underlying79 rfl ?_
  refine LW.call (dev_New _ _ n hs.n0 hs.n1) Tryf.func15 rfl FactsDev3.fname15 ⟨rfl, trivial⟩ (Take.none _) rfl ?_
  rintro _ _ ⟨q, qn, qw, ql, rfl, rfl⟩; refine LW.open4 ?_
  refine LW.assign rfl rfl ?_
  refine LW.nil ?_
  refine NW.then_ ?_
  refine CW.seq ?_
  refine CW.drawH [cr p 82 (devHead bn bw bl n s), cr q 82 (devHead qn qw ql n (DevS.zero n))] FactsDev3.mixed ?_
  refine AW.takes [0, 1, 2, 3, 4, 5, 6, 7] 1 (by kernel_rfl) (by kernel_rfl) rfl (by repeat (first | exact PO.body | refine PO.then_ ?_ | refine PO.block ?_ | refine PO.noGoto ?_)) (fun _ s => Held.of s (by repeat (first | exact Sub.nil _ | refine Sub.cons1 (by repeat (first | exact Take.head _ _ | apply Take.tail)) ?_))) ?_
  refine TW.take rfl (Yl.move rfl) rfl ?_
  refine TW.take rfl (Yl.nilPtr rfl) rfl ?_
  refine TW.take rfl (Yl.fieldAddr _ rfl (fun _ => FactsDev3.fa82_0 _ _ _)) rfl ?_
  refine TW.take rfl (Yl.load rfl (by repeat (first | exact List.Mem.head _ | refine List.Mem.tail _ ?_)) rfl FactsDev3.one79) rfl ?_
  refine TW.take rfl (Yl.move rfl) rfl ?_
  refine TW.take rfl (Yl.nilPtr rfl) rfl ?_
  refine TW.take rfl (Yl.fieldAddr _ rfl (fun _ => FactsDev3.fa82_0 _ _ _)) rfl ?_
  refine TW.take rfl (Yl.load rfl (by repeat (first | exact List.Mem.head _ | refine List.Mem.tail _ ?_)) rfl FactsDev3.one79) rfl ?_
  refine TW.nil ?_
  refine AW.act 8 (by kernel_rfl) rfl ?_
  refine LW.copy (secV s.now) (secV (s.kept (looseTo s n) keep 0)) rfl rfl Tryf.underlying79 FactsDev3.szt85 (by repeat (first | exact Take.head _ _ | apply Take.tail)) (RdAt.row (by repeat (first | exact Take.head _ _ | apply Take.tail)) (fun j v hj => by simpa using hj)) (by simp [secV_len hs.now]) (fun h => (by cases h)) (by simp [secV_len hs.now, DevS.zero, secV_len (Secs.rep n)]) (secV_one _) (whole (by rw [secV_len hs.now, DevS.zero, secV_len (Secs.rep n)]) (by simp)) rfl ?_
  refine LW.nil ?_
  refine AW.back (fun _ s => Held.of s (by repeat (first | exact Sub.nil _ | refine Sub.cons1 (by repeat (first | exact Take.head _ _ | apply Take.tail)) ?_))) ?_
  refine AW.done (by kernel_rfl) ?_
  refine NW.then_ ?_
  refine CW.seq ?_
  refine CW.seq ?_
  refine CW.region ?_
  refine LW.move rfl rfl ?_
  refine LW.call (dev_Loose _ _ p bn bw bl n s hs) Tryf.func36 rfl FactsDev3.fname36 ⟨rfl, trivial⟩ ((Take.four (by repeat (first | exact Take.head _ _ | apply Take.tail)) (by repeat (first | exact Take.head _ _ | apply Take.tail)) (by repeat (first | exact Take.head _ _ | apply Take.tail)) (by repeat (first | exact Take.head _ _ | apply Take.tail)))) rfl ?_
  rintro v _ ⟨ch, ho, rfl⟩; obtain ⟨A2, cp2, rfl, hA2, hc2⟩ := ho.val; refine LW.split2 (LW.open4p ?_)
  refine LW.lenSlice rfl Tryf.underlying86 rfl ?_
  refine LW.move rfl rfl ?_
  refine LW.nil ?_
  refine NW.then_ ?_
  refine CW.block ?_
  refine CW.loop (fun k : Nat => [(28, .int .i64 (k : Int)), (27, .int .i64 ((looseTo s n).length : Int)), (26, .slice A2 (looseTo s n).length cp2), (5, .pointer (some ⟨q, 0, none⟩)), (1, .slice A keep.length cp), (0, .pointer (some ⟨p, 0, none⟩))]) (fun k => [[cr p 82 (devHead bn bw bl n s)], [cr bn 85 (secV s.now)], [cr bw 85 (secV s.was)], [cr bl 4 (s.loose.map .bool)], [cr q 82 (devHead qn qw ql n (DevS.zero n))], [cr qn 85 (secV (s.kept (looseTo s n) keep k))], [cr qw 85 (secV (DevS.zero n).was)], [cr ql 4 ((DevS.zero n).loose.map .bool)], ch, src]) (fun k => k ≤ (looseTo s n).length) (fun k => (looseTo s n).length - k) 0 ?st6_j ?st6_e ?st6_h ?st6_r
  case st6_j => exact Nat.zero_le _
  case st6_e => repeat (first | exact Env.Le.nil _ | refine Env.Le.cons rfl ?_)
  case st6_h => repeat (first | exact Sub.heap_nil _ | exact Sub.refl _ | refine Sub.heap_cons (Take.none _) ?_ | refine Sub.heap_cons (by repeat (first | exact Take.head _ _ | apply Take.tail)) ?_)
  case st6_r =>
    intro k hk
    refine CW.seq ?_
    refine CW.region ?_
    refine LW.lss (decide ((k : Int) < ((looseTo s n).length : Int))) rfl rfl (rfl) rfl ?_
    refine LW.nil ?_
    refine NW.then_ ?_
    refine CW.seq ?_
    refine CW.cond rfl (fun hc29 => ?_) (fun hc29 => ?_)
    · have hkn : k < (looseTo s n).length := by simpa using hc29
      obtain ⟨a2, rfl⟩ : ∃ a, A2 = some a := by
        cases A2 with
        | none => have := hA2 rfl; omega
        | some a => exact ⟨a, rfl⟩
      have hgL : (looseTo s n)[k]? = some ((looseTo s n).getD k 0) := by simp [List.getD, List.getElem?_eq_getElem hkn]
      have hLn : (looseTo s n).getD k 0 < n := looseTo_lt (List.mem_of_getElem? hgL)
      generalize hgl : (looseTo s n).getD k 0 = lk at hgL hLn
      refine CW.skip ?_
      refine NW.then_ ?_
      refine CW.seq ?_
      refine CW.block ?_
      refine CW.seq ?_
      refine CW.region ?_
      refine LW.move rfl rfl ?_
      refine LW.indexAt rfl rfl Tryf.underlying86 FactsDev3.ixs86 (by omega) (by omega) rfl ?_
      refine LW.loadRd (v := .int .i64 (lk : Int)) rfl (ho.src.rd (by repeat (first | exact Take.head _ _ | apply Take.tail))) (by simp [hgL, intV]) FactsDev3.one3 rfl ?_
      refine LW.assign rfl rfl ?_
      refine LW.assign rfl rfl ?_
      refine LW.nil ?_
      refine NW.then_ ?_
      refine CW.seq ?_
      refine CW.region ?_
      refine LW.move rfl rfl ?_
      refine LW.move rfl rfl ?_
      refine LW.lenSlice rfl Tryf.underlying80 rfl ?_
      by_cases hkl : keep.length ≤ k
      · refine LW.geq true rfl rfl (decide_eq_true (by omega)) rfl ?_
        refine LW.move rfl rfl ?_
        refine LW.off 37 rfl rfl rfl rfl ?_
        refine LW.off 37 rfl rfl rfl rfl ?_
        refine LW.off 37 rfl rfl rfl rfl ?_
        refine LW.off 37 rfl rfl rfl rfl ?_
        refine LW.off 37 rfl rfl rfl rfl ?_
        refine LW.pickT rfl rfl rfl ?_
        refine LW.nil ?_
        refine NW.then_ ?_
        refine CW.cond_true rfl ?_
        have hkf : keep.getD k false = false := by simp [List.getD, List.getElem?_eq_none hkl]
        refine CW.drawH [cr p 82 (devHead bn bw bl n s), cr q 82 (devHead qn qw ql n (DevS.zero n)), cr bw 85 (secV s.was)] FactsDev3.mixed ?_
        refine AW.takes [0, 1, 2, 3, 4, 5, 6, 7, 8, 9, 10, 11, 12] 1 (by kernel_rfl) (by kernel_rfl) rfl (by repeat (first | exact PO.body | refine PO.then_ ?_ | refine PO.block ?_ | refine PO.noGoto ?_)) (fun _ s => Held.of s (by repeat (first | exact Sub.nil _ | refine Sub.cons1 (by repeat (first | exact Take.head _ _ | apply Take.tail)) ?_))) ?_
        refine TW.take rfl (Yl.move rfl) rfl ?_
        refine TW.take rfl (Yl.nilPtr rfl) rfl ?_
        refine TW.take rfl (Yl.fieldAddr _ rfl (fun _ => FactsDev3.fa82_0 _ _ _)) rfl ?_
        refine TW.take rfl (Yl.load rfl (by repeat (first | exact List.Mem.head _ | refine List.Mem.tail _ ?_)) rfl FactsDev3.one79) rfl ?_
        refine TW.take rfl (Yl.move rfl) rfl ?_
        refine TW.take rfl (Yl.move rfl) rfl ?_
        refine TW.take rfl (Yl.nilPtr rfl) rfl ?_
        refine TW.take rfl (Yl.fieldAddr _ rfl (fun _ => FactsDev3.fa82_1 _ _ _)) rfl ?_
        refine TW.take rfl (Yl.load rfl (by repeat (first | exact List.Mem.head _ | refine List.Mem.tail _ ?_)) rfl FactsDev3.one79) rfl ?_
        refine TW.take rfl (Yl.move rfl) rfl ?_
        refine TW.take rfl (Yl.indexAddr (lk * 64) rfl rfl Tryf.underlying79 FactsDev3.ixs79 (by omega) (by omega) (by simp)) rfl ?_
        refine TW.take rfl (Yl.loadAgg ((s.was.getD lk []).map u8v) rfl (by repeat (first | exact List.Mem.head _ | refine List.Mem.tail _ ?_)) (secV_get hs.was (hs.was.getD hLn)) Tryf.underlying85 rfl (by rw [FactsDev3.szt85]; exact congrArg some (Eq.symm (by rw [List.length_map]; exact hs.was.get (hs.was.getD hLn))))) rfl ?_
        refine TW.take rfl (Yl.indexAddr (lk * 64) rfl rfl Tryf.underlying79 FactsDev3.ixs79 (by omega) (by omega) (by simp)) rfl ?_
        refine TW.nil ?_
        refine AW.act 13 (by kernel_rfl) rfl ?_
        refine LW.storeAgg (secV (s.kept (looseTo s n) keep (k + 1))) rfl rfl (by repeat (first | exact Take.head _ _ | apply Take.tail)) (by rw [FactsDev3.szt85]; exact congrArg some (Eq.symm (by rw [List.length_map]; exact hs.was.get (hs.was.getD hLn)))) (by rw [secV_len (hs.kept keep k hk), List.length_map, hs.was.get (hs.was.getD hLn)]; omega) (u8vs_one _) (by rw [DevS.kept_succ, if_neg (by rw [hkf]; simp), hgl]; exact secV_set (hs.kept keep k hk) hLn (hs.was.get (hs.was.getD hLn)) rfl (by rw [List.length_map, hs.was.get (hs.was.getD hLn)])) ?_
        refine LW.nil ?_
        refine AW.back (fun _ s => Held.of s (by repeat (first | exact Sub.nil _ | refine Sub.cons1 (by repeat (first | exact Take.head _ _ | apply Take.tail)) ?_))) ?_
        refine AW.done (by kernel_rfl) ?_
        refine NW.block ?_
        refine NW.then_ ?_
        refine CW.region ?_
        refine LW.add ((k + 1 : Int)) rfl rfl (by first | rfl | exact wr64 (by omega) (by omega) (by omega)) rfl ?_
        refine LW.move rfl rfl ?_
        refine LW.nil ?_
        refine NW.meet (k + 1) ?j1 ?e1 ?h1
        case j1 => exact ⟨hkn, by omega⟩
        case e1 => repeat (first | exact Env.Le.nil _ | refine Env.Le.cons rfl ?_)
        case h1 => repeat (first | exact Sub.heap_nil _ | exact Sub.refl _ | refine Sub.heap_cons (Take.none _) ?_ | refine Sub.heap_cons (by repeat (first | exact Take.head _ _ | apply Take.tail)) ?_)
      · refine LW.geq false rfl rfl (decide_eq_false (by omega)) rfl ?_
        refine LW.move rfl rfl ?_
        refine LW.on 37 rfl rfl ?_
        refine LW.move rfl rfl ?_
        refine LW.on 37 rfl rfl ?_
        refine LW.move rfl rfl ?_
        refine LW.on 37 rfl rfl ?_
        obtain ⟨ak, rfl⟩ : ∃ a, A = some a := hsrc.some (by rw [List.length_map]; omega)
        refine LW.indexAt rfl rfl Tryf.underlying80 FactsDev3.ixs80 (by omega) (by omega) rfl ?_
        refine LW.on 37 rfl rfl ?_
        refine LW.loadRd (v := .bool (keep.getD k false)) rfl (hsrc.rd (by repeat (first | exact Take.head _ _ | apply Take.tail))) (by simp [List.getD, List.getElem?_eq_getElem (Nat.not_le.1 hkl)]) FactsDev3.one4 rfl ?_
        refine LW.on 37 rfl rfl ?_
        refine LW.not (!(keep.getD k false)) rfl (rfl) rfl ?_
        refine LW.pickF rfl rfl rfl ?_
        refine LW.nil ?_
        refine NW.then_ ?_
        refine CW.cond rfl (fun hc43 => ?_) (fun hc43 => ?_)
        · have hkf : keep.getD k false = false := by simpa using hc43
          refine CW.drawH [cr p 82 (devHead bn bw bl n s), cr q 82 (devHead qn qw ql n (DevS.zero n)), cr bw 85 (secV s.was)] FactsDev3.mixed ?_
          refine AW.takes [0, 1, 2, 3, 4, 5, 6, 7, 8, 9, 10, 11, 12] 1 (by kernel_rfl) (by kernel_rfl) rfl (by repeat (first | exact PO.body | refine PO.then_ ?_ | refine PO.block ?_ | refine PO.noGoto ?_)) (fun _ s => Held.of s (by repeat (first | exact Sub.nil _ | refine Sub.cons1 (by repeat (first | exact Take.head _ _ | apply Take.tail)) ?_))) ?_
          refine TW.take rfl (Yl.move rfl) rfl ?_
          refine TW.take rfl (Yl.nilPtr rfl) rfl ?_
          refine TW.take rfl (Yl.fieldAddr _ rfl (fun _ => FactsDev3.fa82_0 _ _ _)) rfl ?_
          refine TW.take rfl (Yl.load rfl (by repeat (first | exact List.Mem.head _ | refine List.Mem.tail _ ?_)) rfl FactsDev3.one79) rfl ?_
          refine TW.take rfl (Yl.move rfl) rfl ?_
          refine TW.take rfl (Yl.move rfl) rfl ?_
          refine TW.take rfl (Yl.nilPtr rfl) rfl ?_
          refine TW.take rfl (Yl.fieldAddr _ rfl (fun _ => FactsDev3.fa82_1 _ _ _)) rfl ?_
          refine TW.take rfl (Yl.load rfl (by repeat (first | exact List.Mem.head _ | refine List.Mem.tail _ ?_)) rfl FactsDev3.one79) rfl ?_
          refine TW.take rfl (Yl.move rfl) rfl ?_
          refine TW.take rfl (Yl.indexAddr (lk * 64) rfl rfl Tryf.underlying79 FactsDev3.ixs79 (by omega) (by omega) (by simp)) rfl ?_
          refine TW.take rfl (Yl.loadAgg ((s.was.getD lk []).map u8v) rfl (by repeat (first | exact List.Mem.head _ | refine List.Mem.tail _ ?_)) (secV_get hs.was (hs.was.getD hLn)) Tryf.underlying85 rfl (by rw [FactsDev3.szt85]; exact congrArg some (Eq.symm (by rw [List.length_map]; exact hs.was.get (hs.was.getD hLn))))) rfl ?_
          refine TW.take rfl (Yl.indexAddr (lk * 64) rfl rfl Tryf.underlying79 FactsDev3.ixs79 (by omega) (by omega) (by simp)) rfl ?_
          refine TW.nil ?_
          refine AW.act 13 (by kernel_rfl) rfl ?_
          refine LW.storeAgg (secV (s.kept (looseTo s n) keep (k + 1))) rfl rfl (by repeat (first | exact Take.head _ _ | apply Take.tail)) (by rw [FactsDev3.szt85]; exact congrArg some (Eq.symm (by rw [List.length_map]; exact hs.was.get (hs.was.getD hLn)))) (by rw [secV_len (hs.kept keep k hk), List.length_map, hs.was.get (hs.was.getD hLn)]; omega) (u8vs_one _) (by rw [DevS.kept_succ, if_neg (by rw [hkf]; simp), hgl]; exact secV_set (hs.kept keep k hk) hLn (hs.was.get (hs.was.getD hLn)) rfl (by rw [List.length_map, hs.was.get (hs.was.getD hLn)])) ?_
          refine LW.nil ?_
          refine AW.back (fun _ s => Held.of s (by repeat (first | exact Sub.nil _ | refine Sub.cons1 (by repeat (first | exact Take.head _ _ | apply Take.tail)) ?_))) ?_
          refine AW.done (by kernel_rfl) ?_
          refine NW.block ?_
          refine NW.then_ ?_
          refine CW.region ?_
          refine LW.add ((k + 1 : Int)) rfl rfl (by first | rfl | exact wr64 (by omega) (by omega) (by omega)) rfl ?_
          refine LW.move rfl rfl ?_
          refine LW.nil ?_
          refine NW.meet (k + 1) ?j2 ?e2 ?h2
          case j2 => exact ⟨hkn, by omega⟩
          case e2 => repeat (first | exact Env.Le.nil _ | refine Env.Le.cons rfl ?_)
          case h2 => repeat (first | exact Sub.heap_nil _ | exact Sub.refl _ | refine Sub.heap_cons (Take.none _) ?_ | refine Sub.heap_cons (by repeat (first | exact Take.head _ _ | apply Take.tail)) ?_)
        · have hkt : keep.getD k false = true := by simpa using hc43
          have hke : s.kept (looseTo s n) keep (k + 1) = s.kept (looseTo s n) keep k := by rw [DevS.kept_succ, if_pos hkt]
          refine CW.skip ?_
          refine NW.block ?_
          refine NW.then_ ?_
          refine CW.region ?_
          refine LW.add ((k + 1 : Int)) rfl rfl (by first | rfl | exact wr64 (by omega) (by omega) (by omega)) rfl ?_
          refine LW.move rfl rfl ?_
          refine LW.nil ?_
          refine NW.meet (k + 1) ?j3 ?e3 ?h3
          case j3 => exact ⟨hkn, by omega⟩
          case e3 => repeat (first | exact Env.Le.nil _ | refine Env.Le.cons rfl ?_)
          case h3 => rw [hke]; repeat (first | exact Sub.heap_nil _ | exact Sub.refl _ | refine Sub.heap_cons (Take.none _) ?_ | refine Sub.heap_cons (by repeat (first | exact Take.head _ _ | apply Take.tail)) ?_)
    · have hkn : k = (looseTo s n).length := by have := of_decide_eq_false hc29; omega
      subst hkn
      refine CW.exit ?_
      refine NW.then_exit ?_
      refine NW.then_exit ?_
      refine NW.block_exit ?_
      refine NW.then_ ?_
      refine CW.seq ?_
      refine CW.drawH [cr q 82 (devHead qn qw ql n (DevS.zero n))] FactsDev3.mixed ?_
      refine AW.takes [0, 1, 2, 3, 4, 5, 6, 7] 1 (by kernel_rfl) (by kernel_rfl) rfl (by repeat (first | exact PO.body | refine PO.then_ ?_ | refine PO.block ?_ | refine PO.noGoto ?_)) (fun _ s => Held.of s (by repeat (first | exact Sub.nil _ | refine Sub.cons1 (by repeat (first | exact Take.head _ _ | apply Take.tail)) ?_))) ?_
      refine TW.take rfl (Yl.move rfl) rfl ?_
      refine TW.take rfl (Yl.nilPtr rfl) rfl ?_
      refine TW.take rfl (Yl.fieldAddr _ rfl (fun _ => FactsDev3.fa82_1 _ _ _)) rfl ?_
      refine TW.take rfl (Yl.load rfl (by repeat (first | exact List.Mem.head _ | refine List.Mem.tail _ ?_)) rfl FactsDev3.one79) rfl ?_
      refine TW.take rfl (Yl.move rfl) rfl ?_
      refine TW.take rfl (Yl.nilPtr rfl) rfl ?_
      refine TW.take rfl (Yl.fieldAddr _ rfl (fun _ => FactsDev3.fa82_0 _ _ _)) rfl ?_
      refine TW.take rfl (Yl.load rfl (by repeat (first | exact List.Mem.head _ | refine List.Mem.tail _ ?_)) rfl FactsDev3.one79) rfl ?_
      refine TW.nil ?_
      refine AW.act 8 (by kernel_rfl) rfl ?_
      refine LW.copy (secV (s.kept (looseTo s n) keep (looseTo s n).length)) (secV (s.kept (looseTo s n) keep (looseTo s n).length)) rfl rfl Tryf.underlying79 FactsDev3.szt85 (by repeat (first | exact Take.head _ _ | apply Take.tail)) (RdAt.row (by repeat (first | exact Take.head _ _ | apply Take.tail)) (fun j v hj => by simpa using hj)) (by simp [secV_len (hs.kept keep _ (Nat.le_refl _))]) (fun h => (by cases h)) (by simp [secV_len (hs.kept keep _ (Nat.le_refl _)), DevS.zero, secV_len (Secs.rep n)]) (secV_one _) (whole (by rw [secV_len (hs.kept keep _ (Nat.le_refl _)), DevS.zero, secV_len (Secs.rep n)]) (by simp)) rfl ?_
      refine LW.nil ?_
      refine AW.back (fun _ s => Held.of s (by repeat (first | exact Sub.nil _ | refine Sub.cons1 (by repeat (first | exact Take.head _ _ | apply Take.tail)) ?_))) ?_
      refine AW.done (by kernel_rfl) ?_
      refine NW.then_ ?_
      refine CW.seq ?_
      refine CW.region ?_
      refine LW.move rfl rfl ?_
      refine LW.assign rfl rfl ?_
      refine LW.nil ?_
      refine NW.then_ ?_
      refine CW.ret ?_
      refine NW.ret1 rfl rfl ⟨_, ⟨q, qn, qw, ql, rfl, rfl⟩, ?_⟩
      exact Sub.app (by repeat (first | exact Take.head _ _ | apply Take.tail)) (Sub.devs (by repeat (first | exact Take.head _ _ | apply Take.tail)) (by repeat (first | exact Take.head _ _ | apply Take.tail)) (by repeat (first | exact Take.head _ _ | apply Take.tail)) (by repeat (first | exact Take.head _ _ | apply Take.tail)) (Sub.four (by repeat (first | exact Take.head _ _ | apply Take.tail)) (by repeat (first | exact Take.head _ _ | apply Take.tail)) (by repeat (first | exact Take.head _ _ | apply Take.tail)) (by repeat (first | exact Take.head _ _ | apply Take.tail))))

end
end Go.Proofs.YtemdebmfdhamgaaFmt
