/-
  THE DOCUMENT's DEVICE: spent, written: the contracts.
-/
import Derived.Test.YtmgpldgldgdenaaDoorRDev1
namespace Go.Proofs.YtmgpldgldgdenaaDoor
open Go.RowKit
namespace FactsRDev2
theorem fa71_0 (b o : Nat) (w : World) : (Instr.fieldAt 71 (.pointer (some ⟨b, o, none⟩)) 0).run Tryd.prog w = .ok (.pointer (some ⟨b, o, none⟩)) w := by kernel_rfl
theorem fa71_2 (b o : Nat) (w : World) : (Instr.fieldAt 71 (.pointer (some ⟨b, o, none⟩)) 2).run Tryd.prog w = .ok (.pointer (some ⟨b, o + 2, none⟩)) w := by kernel_rfl
theorem fa71_3 (b o : Nat) (w : World) : (Instr.fieldAt 71 (.pointer (some ⟨b, o, none⟩)) 3).run Tryd.prog w = .ok (.pointer (some ⟨b, o + 3, none⟩)) w := by kernel_rfl
theorem fa71_4 (b o : Nat) (w : World) : (Instr.fieldAt 71 (.pointer (some ⟨b, o, none⟩)) 4).run Tryd.prog w = .ok (.pointer (some ⟨b, o + 4, none⟩)) w := by kernel_rfl
theorem fname41 : (Tryd.f41.name == "runtime.NumGoroutine") = false := by kernel_rfl
theorem fname54 : (Tryd.f54.name == "runtime.NumGoroutine") = false := by kernel_rfl
theorem info5 : (Tryd.prog.info? 5).map (fun i => (i.zero, i.size, i.bytes)) = some (some (.int .u8 0), 1, 1) := by kernel_rfl
theorem ixs22 : (Tryd.prog.info? 4).map (·.size) = some 1 := by kernel_rfl
theorem ixs51 : (Tryd.prog.info? 26).map (·.size) = some 1 := by kernel_rfl
theorem mixed : Tryd.prog.follows .mixedOrders = true := by kernel_rfl
theorem one22 : oneB Tryd.prog 22 = true := by kernel_rfl
theorem one3 : oneB Tryd.prog 3 = true := by kernel_rfl
theorem one4 : oneB Tryd.prog 4 = true := by kernel_rfl
theorem one51 : oneB Tryd.prog 51 = true := by kernel_rfl
theorem sz26 : (Tryd.prog.info? 26).map (·.size) = some 1 := by kernel_rfl
theorem sz3 : (Tryd.prog.info? 3).map (·.size) = some 1 := by kernel_rfl
theorem sz4 : (Tryd.prog.info? 4).map (·.size) = some 1 := by kernel_rfl
end FactsRDev2
section
variable (W : World) (B : Nat)
theorem rdev_spend (r : RD) (n : Nat) (s : DevS) (hs : s.Ok n) (hd : s.down = false) : Spec Tryd.prog W B 54 [.pointer (some ⟨r.q, 0, none⟩)] (r.rows n s) (fun v post => v = .tuple #[] ∧ post = r.rows n s.burn) := by
  cases hf : s.fused
  · have hb : s.burn = s := by simp [DevS.burn, hf]
    rw [hb]
    refine Spec.enter ([[cr r.q 71 (rdHead r n s)], r.chN, r.chS, [cr r.bl 4 (s.loose.map .bool)], r.ar]) Tryd.func54 rfl Tryd.ntmps54 rfl (by first | rfl | simp [RD.rows, rdHead]) (fun w0 => ?_)
    refine CW.seq ?_
    refine CW.region ?_
    refine LW.move rfl rfl ?_
    refine LW.nilPtr rfl rfl ?_
    refine LW.fieldAddr _ rfl (fun _ => FactsRDev2.fa71_4 _ _ _) rfl ?_
    refine LW.load (v := .bool false) rfl (by repeat (first | exact Take.head _ _ | apply Take.tail)) (by simp [rdHead, hf]) FactsRDev2.one4 rfl ?_
    refine LW.nil ?_
    refine NW.then_ ?_
    refine CW.cond_false rfl ?_
    refine CW.skip ?_
    refine NW.end0 rfl  ⟨_, ⟨rfl, rfl⟩, ?_⟩
    exact Sub.one (Take.rd (by repeat (first | exact Take.head _ _ | apply Take.tail)) (by repeat (first | exact Take.head _ _ | apply Take.tail)) (by repeat (first | exact Take.head _ _ | apply Take.tail)) (by repeat (first | exact Take.head _ _ | apply Take.tail)) (by repeat (first | exact Take.head _ _ | apply Take.tail)))
  · have hb : s.burn = { s with fuse := s.fuse - 1, down := decide (s.fuse - 1 ≤ 0) } := by simp [DevS.burn, hf]
    have hl := hs.live hd hf
    have hh := hs.hi
    rw [hb]
    refine Spec.enter ([[cr r.q 71 (rdHead r n s)], r.chN, r.chS, [cr r.bl 4 (s.loose.map .bool)], r.ar]) Tryd.func54 rfl Tryd.ntmps54 rfl (by first | rfl | simp [RD.rows, rdHead]) (fun w0 => ?_)
    refine CW.seq ?_
    refine CW.region ?_
    refine LW.move rfl rfl ?_
    refine LW.nilPtr rfl rfl ?_
    refine LW.fieldAddr _ rfl (fun _ => FactsRDev2.fa71_4 _ _ _) rfl ?_
    refine LW.load (v := .bool true) rfl (by repeat (first | exact Take.head _ _ | apply Take.tail)) (by simp [rdHead, hf]) FactsRDev2.one4 rfl ?_
    refine LW.nil ?_
    refine NW.then_ ?_
    refine CW.cond_true rfl ?_
    refine CW.region ?_
    refine LW.move rfl rfl ?_
    refine LW.nilPtr rfl rfl ?_
    refine LW.fieldAddr _ rfl (fun _ => FactsRDev2.fa71_3 _ _ _) rfl ?_
    refine LW.load (v := .int .i64 s.fuse) rfl (by repeat (first | exact Take.head _ _ | apply Take.tail)) (by simp [rdHead]) FactsRDev2.one3 rfl ?_
    refine LW.sub64 rfl rfl (by omega) (by omega) rfl ?_
    refine LW.nilPtr rfl rfl ?_
    refine LW.fieldAddr _ rfl (fun _ => FactsRDev2.fa71_3 _ _ _) rfl ?_
    refine LW.store rfl rfl (by repeat (first | exact Take.head _ _ | apply Take.tail)) (by simp [rdHead]) FactsRDev2.sz3 (rfl) ?_
    refine LW.nil ?_
    refine NW.end0 rfl  ⟨_, ⟨rfl, rfl⟩, ?_⟩
    exact Sub.one (Take.rd (by repeat (first | exact Take.head _ _ | apply Take.tail)) (by repeat (first | exact Take.head _ _ | apply Take.tail)) (by repeat (first | exact Take.head _ _ | apply Take.tail)) (by repeat (first | exact Take.head _ _ | apply Take.tail)) (by repeat (first | exact Take.head _ _ | apply Take.tail)))

theorem rdev_Write_no (r : RD) (n : Nat) (s : DevS) (hr : r.Ok W B n s) (i : Int) (A : Option Addr) (l cp : Nat) (he : s.err n i l ≠ 0) :
    Spec Tryd.prog W B 38 [.pointer (some ⟨r.q, 0, none⟩), .int .i64 i, .slice A l cp] (r.rows n s) (fun v post => v = .int .i64 (s.err n i l) ∧ post = r.rows n s) := by
  have hn0 := hr.ok.n0
  have hdn := rdev_Down W B r n s hr
  obtain ⟨AN, cpN, hvN, _, _⟩ := OwnS.val hr.ownN
  unfold DevS.err at he ⊢
  cases hd : s.down
  · rw [hd] at hdn
    cases hin : isB n i
    · simp only [Bool.false_eq_true, if_false]
      refine Spec.enter ([[cr r.q 71 (rdHead r n s)], r.chN, r.chS, [cr r.bl 4 (s.loose.map .bool)], r.ar]) Tryd.func38 rfl Tryd.ntmps38 rfl (by first | rfl | simp [RD.rows, rdHead]) (fun w0 => ?_)
      refine CW.seq ?_
      refine CW.region ?_
      refine LW.assign rfl rfl ?_
      refine LW.nil ?_
      refine NW.then_ ?_
      refine CW.seq ?_
      refine CW.block ?_
      refine CW.seq ?_
      refine CW.region ?_
      refine LW.move rfl rfl ?_
      refine LW.call (hdn) Tryd.func41 rfl FactsRDev2.fname41 ⟨rfl, trivial⟩ ((Take.rd (by repeat (first | exact Take.head _ _ | apply Take.tail)) (by repeat (first | exact Take.head _ _ | apply Take.tail)) (by repeat (first | exact Take.head _ _ | apply Take.tail)) (by repeat (first | exact Take.head _ _ | apply Take.tail)) (by repeat (first | exact Take.head _ _ | apply Take.tail)))) rfl ?_
      rintro _ _ ⟨rfl, rfl⟩; refine LW.openR ?_
      refine LW.assign rfl rfl ?_
      refine LW.nil ?_
      refine NW.then_ ?_
      refine CW.cond_false rfl ?_
      refine CW.seq ?_
      refine CW.region ?_
      refine LW.move rfl rfl ?_
      by_cases hi0 : i < 0
      · refine LW.lss true rfl rfl (decide_eq_true (by omega)) rfl ?_
        refine LW.move rfl rfl ?_
        refine LW.off 13 rfl rfl rfl rfl ?_
        refine LW.off 13 rfl rfl rfl rfl ?_
        refine LW.off 13 rfl rfl rfl rfl ?_
        refine LW.off 13 rfl rfl rfl rfl ?_
        refine LW.off 13 rfl rfl rfl rfl ?_
        refine LW.off 13 rfl rfl rfl rfl ?_
        refine LW.off 13 rfl rfl rfl rfl ?_
        refine LW.pickT rfl rfl rfl ?_
        refine LW.assign rfl rfl ?_
        refine LW.nil ?_
        refine NW.then_ ?_
        refine CW.cond_true rfl ?_
        refine CW.seq ?_
        refine CW.region ?_
        refine LW.assign rfl rfl ?_
        refine LW.nil ?_
        refine NW.then_ ?_
        refine CW.ret ?_
        refine NW.block_ret ?_
        refine NW.then_ret ?_
        refine NW.ret1 rfl rfl ⟨_, ⟨rfl, rfl⟩, ?_⟩
        exact Sub.one (Take.rd (by repeat (first | exact Take.head _ _ | apply Take.tail)) (by repeat (first | exact Take.head _ _ | apply Take.tail)) (by repeat (first | exact Take.head _ _ | apply Take.tail)) (by repeat (first | exact Take.head _ _ | apply Take.tail)) (by repeat (first | exact Take.head _ _ | apply Take.tail)))
      · refine LW.lss false rfl rfl (decide_eq_false (by omega)) rfl ?_
        refine LW.move rfl rfl ?_
        refine LW.on 13 rfl rfl ?_
        refine LW.move rfl rfl ?_
        refine LW.on 13 rfl rfl ?_
        refine LW.move rfl rfl ?_
        refine LW.on 13 rfl rfl ?_
        refine LW.nilPtr rfl rfl ?_
        refine LW.on 13 rfl rfl ?_
        refine LW.fieldAddr _ rfl (fun _ => FactsRDev2.fa71_0 _ _ _) rfl ?_
        refine LW.on 13 rfl rfl ?_
        refine LW.load (v := .slice AN n cpN) rfl (by repeat (first | exact Take.head _ _ | apply Take.tail)) ((by rw [← hvN]; rfl)) FactsRDev2.one51 rfl ?_
        refine LW.on 13 rfl rfl ?_
        refine LW.lenSlice rfl Tryd.underlying51 rfl ?_
        refine LW.on 13 rfl rfl ?_
        refine LW.geq true rfl rfl (decide_eq_true (by simp [isB] at hin; omega)) rfl ?_
        refine LW.pickF rfl rfl rfl ?_
        refine LW.assign rfl rfl ?_
        refine LW.nil ?_
        refine NW.then_ ?_
        refine CW.cond_true rfl ?_
        refine CW.seq ?_
        refine CW.region ?_
        refine LW.assign rfl rfl ?_
        refine LW.nil ?_
        refine NW.then_ ?_
        refine CW.ret ?_
        refine NW.block_ret ?_
        refine NW.then_ret ?_
        refine NW.ret1 rfl rfl ⟨_, ⟨rfl, rfl⟩, ?_⟩
        exact Sub.one (Take.rd (by repeat (first | exact Take.head _ _ | apply Take.tail)) (by repeat (first | exact Take.head _ _ | apply Take.tail)) (by repeat (first | exact Take.head _ _ | apply Take.tail)) (by repeat (first | exact Take.head _ _ | apply Take.tail)) (by repeat (first | exact Take.head _ _ | apply Take.tail)))
    · simp only [hd, hin, Bool.false_eq_true, if_false, if_true] at he ⊢
      have hl : l ≠ 64 := fun h => by simp [h] at he
      have hi2 : 0 ≤ i ∧ i < (n : Int) := by simpa [isB] using hin
      rw [if_neg hl]
      refine Spec.enter ([[cr r.q 71 (rdHead r n s)], r.chN, r.chS, [cr r.bl 4 (s.loose.map .bool)], r.ar]) Tryd.func38 rfl Tryd.ntmps38 rfl (by first | rfl | simp [RD.rows, rdHead]) (fun w0 => ?_)
      refine CW.seq ?_
      refine CW.region ?_
      refine LW.assign rfl rfl ?_
      refine LW.nil ?_
      refine NW.then_ ?_
      refine CW.seq ?_
      refine CW.block ?_
      refine CW.seq ?_
      refine CW.region ?_
      refine LW.move rfl rfl ?_
      refine LW.call (hdn) Tryd.func41 rfl FactsRDev2.fname41 ⟨rfl, trivial⟩ ((Take.rd (by repeat (first | exact Take.head _ _ | apply Take.tail)) (by repeat (first | exact Take.head _ _ | apply Take.tail)) (by repeat (first | exact Take.head _ _ | apply Take.tail)) (by repeat (first | exact Take.head _ _ | apply Take.tail)) (by repeat (first | exact Take.head _ _ | apply Take.tail)))) rfl ?_
      rintro _ _ ⟨rfl, rfl⟩; refine LW.openR ?_
      refine LW.assign rfl rfl ?_
      refine LW.nil ?_
      refine NW.then_ ?_
      refine CW.cond_false rfl ?_
      refine CW.seq ?_
      refine CW.region ?_
      refine LW.move rfl rfl ?_
      refine LW.lss false rfl rfl (decide_eq_false (by omega)) rfl ?_
      refine LW.move rfl rfl ?_
      refine LW.on 13 rfl rfl ?_
      refine LW.move rfl rfl ?_
      refine LW.on 13 rfl rfl ?_
      refine LW.move rfl rfl ?_
      refine LW.on 13 rfl rfl ?_
      refine LW.nilPtr rfl rfl ?_
      refine LW.on 13 rfl rfl ?_
      refine LW.fieldAddr _ rfl (fun _ => FactsRDev2.fa71_0 _ _ _) rfl ?_
      refine LW.on 13 rfl rfl ?_
      refine LW.load (v := .slice AN n cpN) rfl (by repeat (first | exact Take.head _ _ | apply Take.tail)) ((by rw [← hvN]; rfl)) FactsRDev2.one51 rfl ?_
      refine LW.on 13 rfl rfl ?_
      refine LW.lenSlice rfl Tryd.underlying51 rfl ?_
      refine LW.on 13 rfl rfl ?_
      refine LW.geq false rfl rfl (decide_eq_false (by omega)) rfl ?_
      refine LW.pickF rfl rfl rfl ?_
      refine LW.assign rfl rfl ?_
      refine LW.nil ?_
      refine NW.then_ ?_
      refine CW.cond_false rfl ?_
      refine CW.seq ?_
      refine CW.region ?_
      refine LW.move rfl rfl ?_
      refine LW.lenSlice rfl Tryd.underlying26 rfl ?_
      refine LW.neq true rfl rfl (bne_iff_ne.2 (by omega)) rfl ?_
      refine LW.assign rfl rfl ?_
      refine LW.nil ?_
      refine NW.then_ ?_
      refine CW.cond_true rfl ?_
      refine CW.seq ?_
      refine CW.region ?_
      refine LW.assign rfl rfl ?_
      refine LW.nil ?_
      refine NW.then_ ?_
      refine CW.ret ?_
      refine NW.block_ret ?_
      refine NW.then_ret ?_
      refine NW.ret1 rfl rfl ⟨_, ⟨rfl, rfl⟩, ?_⟩
      exact Sub.one (Take.rd (by repeat (first | exact Take.head _ _ | apply Take.tail)) (by repeat (first | exact Take.head _ _ | apply Take.tail)) (by repeat (first | exact Take.head _ _ | apply Take.tail)) (by repeat (first | exact Take.head _ _ | apply Take.tail)) (by repeat (first | exact Take.head _ _ | apply Take.tail)))
  · rw [hd] at hdn
    simp only [if_true]
    refine Spec.enter ([[cr r.q 71 (rdHead r n s)], r.chN, r.chS, [cr r.bl 4 (s.loose.map .bool)], r.ar]) Tryd.func38 rfl Tryd.ntmps38 rfl (by first | rfl | simp [RD.rows, rdHead]) (fun w0 => ?_)
    refine CW.seq ?_
    refine CW.region ?_
    refine LW.assign rfl rfl ?_
    refine LW.nil ?_
    refine NW.then_ ?_
    refine CW.seq ?_
    refine CW.block ?_
    refine CW.seq ?_
    refine CW.region ?_
    refine LW.move rfl rfl ?_
    refine LW.call (hdn) Tryd.func41 rfl FactsRDev2.fname41 ⟨rfl, trivial⟩ ((Take.rd (by repeat (first | exact Take.head _ _ | apply Take.tail)) (by repeat (first | exact Take.head _ _ | apply Take.tail)) (by repeat (first | exact Take.head _ _ | apply Take.tail)) (by repeat (first | exact Take.head _ _ | apply Take.tail)) (by repeat (first | exact Take.head _ _ | apply Take.tail)))) rfl ?_
    rintro _ _ ⟨rfl, rfl⟩; refine LW.openR ?_
    refine LW.assign rfl rfl ?_
    refine LW.nil ?_
    refine NW.then_ ?_
    refine CW.cond_true rfl ?_
    refine CW.seq ?_
    refine CW.region ?_
    refine LW.assign rfl rfl ?_
    refine LW.nil ?_
    refine NW.then_ ?_
    refine CW.ret ?_
    refine NW.block_ret ?_
    refine NW.then_ret ?_
    refine NW.ret1 rfl rfl ⟨_, ⟨rfl, rfl⟩, ?_⟩
    exact Sub.one (Take.rd (by repeat (first | exact Take.head _ _ | apply Take.tail)) (by repeat (first | exact Take.head _ _ | apply Take.tail)) (by repeat (first | exact Take.head _ _ | apply Take.tail)) (by repeat (first | exact Take.head _ _ | apply Take.tail)) (by repeat (first | exact Take.head _ _ | apply Take.tail)))
theorem burn_dn {s : DevS} (h : s.down = (s.fused && decide (s.fuse ≤ 0))) : s.burn.down = (s.burn.fused && decide (s.burn.fuse ≤ 0)) := by
  unfold DevS.burn
  split
  · rename_i hf; simp [hf]
  · exact h

theorem rdev_Write_ok (r : RD) (n : Nat) (s : DevS) (hr : r.Ok W B n s) (i : Nat) (hi : i < n) (hd : s.down = false) (src : List Row) (A : Option Addr) (cp : Nat) (b : List UInt8) (hb : b.length = 64) (hsrc : Src W B src A (b.map u8v)) :
    Spec Tryd.prog W B 38 [.pointer (some ⟨r.q, 0, none⟩), .int .i64 (i : Int), .slice A 64 cp] (src ++ r.rows n s) (fun v post => v = .int .i64 0 ∧ ∃ r' : RD, r'.q = r.q ∧ r'.Ok W B n (s.put i b).burn ∧ post = src ++ r'.rows n (s.put i b).burn) := by
  have hdn := rdev_Down W B r n s hr
  rw [hd] at hdn
  have hsp := rdev_spend W B r n s hr.ok hd
  have hpb : (s.put i b).burn = s.burn.put i b := by unfold DevS.burn DevS.put; split <;> rename_i h <;> simp only [] at h <;> simp [h]
  have hn0 := hr.ok.n0
  have hn1 := hr.ok.n1
  have hN := hr.ownN
  have hsN := hr.secN
  have hA : ∃ a, A = some a := hsrc.some (by rw [List.length_map]; omega)
  have hbl : s.burn.loose = s.loose := by unfold DevS.burn; split <;> rfl
  have hml : (s.loose.map Value.bool).set i (.bool true) = (s.burn.put i b).loose.map Value.bool := by simp [DevS.put, hbl, List.map_set]
  rcases hN with ⟨_, h, _⟩ | ⟨bN, capN, slN, hvN, hlN, hcN, hslN, hchN⟩
  · omega
  rw [hpb]
  refine Spec.enter (src :: [[cr r.q 71 (rdHead r n s)], r.chN, r.chS, [cr r.bl 4 (s.loose.map .bool)], r.ar]) Tryd.func38 rfl Tryd.ntmps38 rfl (by first | rfl | simp [RD.rows, rdHead]) (fun w0 => ?_)
  refine CW.seq ?_
  refine CW.region ?_
  refine LW.assign rfl rfl ?_
  refine LW.nil ?_
  refine NW.then_ ?_
  refine CW.seq ?_
  refine CW.block ?_
  refine CW.seq ?_
  refine CW.region ?_
  refine LW.move rfl rfl ?_
  refine LW.call (hdn) Tryd.func41 rfl FactsRDev2.fname41 ⟨rfl, trivial⟩ ((Take.rd (by repeat (first | exact Take.head _ _ | apply Take.tail)) (by repeat (first | exact Take.head _ _ | apply Take.tail)) (by repeat (first | exact Take.head _ _ | apply Take.tail)) (by repeat (first | exact Take.head _ _ | apply Take.tail)) (by repeat (first | exact Take.head _ _ | apply Take.tail)))) rfl ?_
  rintro _ _ ⟨rfl, rfl⟩; refine LW.openR ?_
  refine LW.assign rfl rfl ?_
  refine LW.nil ?_
  refine NW.then_ ?_
  refine CW.cond_false rfl ?_
  refine CW.seq ?_
  refine CW.region ?_
  refine LW.move rfl rfl ?_
  refine LW.lss false rfl rfl (decide_eq_false (by omega)) rfl ?_
  refine LW.move rfl rfl ?_
  refine LW.on 13 rfl rfl ?_
  refine LW.move rfl rfl ?_
  refine LW.on 13 rfl rfl ?_
  refine LW.move rfl rfl ?_
  refine LW.on 13 rfl rfl ?_
  refine LW.nilPtr rfl rfl ?_
  refine LW.on 13 rfl rfl ?_
  refine LW.fieldAddr _ rfl (fun _ => FactsRDev2.fa71_0 _ _ _) rfl ?_
  refine LW.on 13 rfl rfl ?_
  refine LW.load (v := .slice (some ⟨bN, 0, none⟩) n capN) rfl (by repeat (first | exact Take.head _ _ | apply Take.tail)) ((by rw [← hvN]; rfl)) FactsRDev2.one51 rfl ?_
  refine LW.on 13 rfl rfl ?_
  refine LW.lenSlice rfl Tryd.underlying51 rfl ?_
  refine LW.on 13 rfl rfl ?_
  refine LW.geq false rfl rfl (decide_eq_false (by omega)) rfl ?_
  refine LW.pickF rfl rfl rfl ?_
  refine LW.assign rfl rfl ?_
  refine LW.nil ?_
  refine NW.then_ ?_
  refine CW.cond_false rfl ?_
  refine CW.seq ?_
  refine CW.region ?_
  refine LW.move rfl rfl ?_
  refine LW.lenSlice rfl Tryd.underlying26 rfl ?_
  refine LW.neq false rfl rfl (bne_eq_false_iff_eq.2 (by omega)) rfl ?_
  refine LW.assign rfl rfl ?_
  refine LW.nil ?_
  refine NW.then_ ?_
  refine CW.cond_false rfl ?_
  refine CW.skip ?_
  refine NW.block ?_
  refine NW.then_ ?_
  refine CW.seq ?_
  refine CW.region ?_
  refine LW.move rfl rfl ?_
  refine LW.call (hsp) Tryd.func54 rfl FactsRDev2.fname54 ⟨rfl, trivial⟩ ((Take.rd (by repeat (first | exact Take.head _ _ | apply Take.tail)) (by repeat (first | exact Take.head _ _ | apply Take.tail)) (by repeat (first | exact Take.head _ _ | apply Take.tail)) (by repeat (first | exact Take.head _ _ | apply Take.tail)) (by repeat (first | exact Take.head _ _ | apply Take.tail)))) rfl ?_
  rintro _ _ ⟨rfl, rfl⟩; refine LW.openR ?_; rw [hchN]
  refine LW.nil ?_
  refine NW.then_ ?_
  refine CW.seq ?_
  refine CW.drawH [cr r.q 71 (rdHead r n s.burn)] FactsRDev2.mixed ?_
  refine AW.takes [0, 1, 2, 3, 4, 5] 3 (by kernel_rfl) (by kernel_rfl) rfl (by repeat (first | exact PO.body | refine PO.then_ ?_ | refine PO.block ?_ | refine PO.noGoto ?_)) (fun _ s => Held.of s (by repeat (first | exact Sub.nil _ | refine Sub.cons1 (by repeat (first | exact Take.head _ _ | apply Take.tail)) ?_))) ?_
  refine TW.take rfl (Yl.move rfl) rfl ?_
  refine TW.take rfl (Yl.nilPtr rfl) rfl ?_
  refine TW.take rfl (Yl.fieldAddr _ rfl (fun _ => FactsRDev2.fa71_0 _ _ _)) rfl ?_
  refine TW.take rfl (Yl.load (v := .slice (some ⟨bN, 0, none⟩) n capN) rfl (by repeat (first | exact List.Mem.head _ | refine List.Mem.tail _ ?_)) ((by rw [← hvN]; rfl)) FactsRDev2.one51) rfl ?_
  refine TW.take rfl (Yl.move rfl) rfl ?_
  refine TW.take rfl (Yl.move rfl) rfl ?_
  refine TW.nil ?_
  refine AW.act 6 (by kernel_rfl) rfl ?_
  refine LW.append (b.map u8v) rfl rfl Tryd.underlying26 Tryd.underlying26 (.inr ⟨_, rfl⟩) FactsRDev2.info5 rfl (OwnB.nil) (Take.none _) (fun _ => lenOf_slice _ _ _ _) (first_rd (hsrc.rd (by repeat (first | exact Take.head _ _ | apply Take.tail))) (by simp [hb]) (fun h => (by obtain ⟨a, ha⟩ := hA; rw [ha] at h; cases h))) (by simp [hb]) (u8vs_one _) (by simp only [List.length_nil]; omega) (by simp only [List.length_nil]; omega) rfl ?_
  intro v4 ch4 ho4; replace ho4 := OwnB.app ho4 rfl hb.symm
  refine LW.nil ?_
  refine AW.back (fun _ s => Held.of s (by repeat (first | exact Sub.nil _ | refine Sub.cons1 (by repeat (first | exact Take.head _ _ | apply Take.tail)) ?_))) ?_
  refine AW.takes [7] 1 (by kernel_rfl) (by kernel_rfl) rfl (by repeat (first | exact PO.body | refine PO.then_ ?_ | refine PO.block ?_ | refine PO.noGoto ?_)) (fun _ s => Held.of s (by repeat (first | exact Sub.nil _ | refine Sub.cons1 (by repeat (first | exact Take.head _ _ | apply Take.tail)) ?_))) ?_
  refine TW.take rfl (Yl.indexAddr (i) rfl rfl Tryd.underlying51 FactsRDev2.ixs51 (by omega) (by omega) (by simp)) rfl ?_
  refine TW.nil ?_
  refine AW.act 8 (by kernel_rfl) rfl ?_
  refine LW.store rfl rfl (by repeat (first | exact Take.head _ _ | apply Take.tail)) (by rw [List.length_append, hlN]; omega) FactsRDev2.sz26 (OwnS.one ho4) ?_
  refine LW.nil ?_
  refine AW.back (fun _ s => Held.of s (by repeat (first | exact Sub.nil _ | refine Sub.cons1 (by repeat (first | exact Take.head _ _ | apply Take.tail)) ?_))) ?_
  refine AW.done (by kernel_rfl) ?_
  refine NW.then_ ?_
  refine CW.seq ?_
  refine CW.region ?_
  refine LW.move rfl rfl ?_
  refine LW.nilPtr rfl rfl ?_
  refine LW.fieldAddr _ rfl (fun _ => FactsRDev2.fa71_2 _ _ _) rfl ?_
  refine LW.load (v := .slice (some ⟨r.bl, 0, none⟩) n n) rfl (by repeat (first | exact Take.head _ _ | apply Take.tail)) (rfl) FactsRDev2.one22 rfl ?_
  refine LW.move rfl rfl ?_
  refine LW.indexAddr (i) rfl rfl Tryd.underlying22 FactsRDev2.ixs22 (by omega) (by omega) (by simp) rfl ?_
  refine LW.store rfl rfl (by repeat (first | exact Take.head _ _ | apply Take.tail)) (by rw [List.length_map, hbl, hr.ok.loose]; exact hi) FactsRDev2.sz4 (rfl) ?_
  rw [hbl, hml]
  refine LW.nil ?_
  refine NW.then_ ?_
  refine CW.seq ?_
  refine CW.region ?_
  refine LW.assign rfl rfl ?_
  refine LW.nil ?_
  refine NW.then_ ?_
  refine CW.ret ?_
  refine NW.ret1 rfl rfl ⟨_, ⟨rfl, { r with nv := r.nv.set i v4, chN := [cr bN 26 ((r.nv ++ slN).set i v4)], ar := ch4 ++ r.ar }, rfl, ⟨.inr ⟨bN, capN, slN, hvN, by rw [List.length_set]; exact hlN, hcN, hslN, by rw [List.set_append_left _ _ (by rw [hlN]; omega)]⟩, hr.ownS, by
    have hnow : (s.burn.put i b).now = s.now.set i b := by unfold DevS.burn; split <;> rfl
    rw [hnow]
    obtain ⟨A5, cp5, rfl, _, _⟩ := OwnS.val ho4
    rw [List.nil_append] at ho4
    exact (hsN.more (fun x hx => List.mem_append_right _ hx)).set hr.ok.now.1 hi ⟨A5, cp5, by rw [List.nil_append, hb], hb, (OwnS.src ho4).more (fun x hx => List.mem_append_left _ hx)⟩, by
    have hwas : (s.burn.put i b).was = s.was := by unfold DevS.burn; split <;> rfl
    rw [hwas]
    exact hr.secS.more (fun x hx => List.mem_append_right _ hx), by
    rw [← hpb]; exact (hr.ok.put hb).burn hd, burn_dn hr.dn⟩, rfl⟩, ?_⟩
  exact Sub.take (p := src) (by repeat (first | exact Take.head _ _ | apply Take.tail)) (Sub.one (Take.rd (by repeat (first | exact Take.head _ _ | apply Take.tail)) (by repeat (first | exact Take.head _ _ | apply Take.tail)) (by repeat (first | exact Take.head _ _ | apply Take.tail)) (by repeat (first | exact Take.head _ _ | apply Take.tail)) (Take.both (by repeat (first | exact Take.head _ _ | apply Take.tail)) (by repeat (first | exact Take.head _ _ | apply Take.tail)))))
end
end Go.Proofs.YtmgpldgldgdenaaDoor
