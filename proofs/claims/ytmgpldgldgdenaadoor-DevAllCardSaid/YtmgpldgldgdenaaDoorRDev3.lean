/-
  THE DOCUMENT's DEVICE: flushed; which sectors are loose; a crash: the contracts.
-/
import Derived.Test.YtmgpldgldgdenaaDoorRDev2
namespace Go.Proofs.YtmgpldgldgdenaaDoor
open Go.RowKit
namespace FactsRDev3
theorem fa71_0 (b o : Nat) (w : World) : (Instr.fieldAt 71 (.pointer (some ⟨b, o, none⟩)) 0).run Tryd.prog w = .ok (.pointer (some ⟨b, o, none⟩)) w := by kernel_rfl
theorem fa71_1 (b o : Nat) (w : World) : (Instr.fieldAt 71 (.pointer (some ⟨b, o, none⟩)) 1).run Tryd.prog w = .ok (.pointer (some ⟨b, o + 1, none⟩)) w := by kernel_rfl
theorem fa71_2 (b o : Nat) (w : World) : (Instr.fieldAt 71 (.pointer (some ⟨b, o, none⟩)) 2).run Tryd.prog w = .ok (.pointer (some ⟨b, o + 2, none⟩)) w := by kernel_rfl
theorem fname41 : (Tryd.f41.name == "runtime.NumGoroutine") = false := by kernel_rfl
theorem fname54 : (Tryd.f54.name == "runtime.NumGoroutine") = false := by kernel_rfl
theorem info3 : (Tryd.prog.info? 3).map (fun i => (i.zero, i.size, i.bytes)) = some (some (.int .i64 0), 1, 8) := by kernel_rfl
theorem ixs22 : (Tryd.prog.info? 4).map (·.size) = some 1 := by kernel_rfl
theorem ixs51 : (Tryd.prog.info? 26).map (·.size) = some 1 := by kernel_rfl
theorem mixed : Tryd.prog.follows .mixedOrders = true := by kernel_rfl
theorem one22 : oneB Tryd.prog 22 = true := by kernel_rfl
theorem one26 : oneB Tryd.prog 26 = true := by kernel_rfl
theorem one4 : oneB Tryd.prog 4 = true := by kernel_rfl
theorem one51 : oneB Tryd.prog 51 = true := by kernel_rfl
theorem sz26 : (Tryd.prog.info? 26).map (·.size) = some 1 := by kernel_rfl
theorem sz4 : (Tryd.prog.info? 4).map (·.size) = some 1 := by kernel_rfl
end FactsRDev3
/-- The first k of a, the rest of b. -/
def mixL {α : Type} (a b : List α) (k : Nat) : List α := a.take k ++ b.drop k
theorem mixL_zero {α : Type} (a b : List α) : mixL a b 0 = b := by simp [mixL]
theorem mixL_all {α : Type} (a b : List α) (h : b.length = a.length) : mixL a b a.length = a := by unfold mixL; rw [List.take_length, List.drop_eq_nil_of_le (by omega), List.append_nil]
theorem mixL_len {α : Type} (a b : List α) (k : Nat) (h : b.length = a.length) (hk : k ≤ a.length) : (mixL a b k).length = a.length := by simp [mixL, h]; omega
theorem mixL_set {α : Type} (a b : List α) (k : Nat) (d : α) (h : b.length = a.length) (hk : k < a.length) : (mixL a b k).set k (a.getD k d) = mixL a b (k + 1) := by
  unfold mixL
  have h1 : (a.take k).length = k := by rw [List.length_take]; omega
  have h2 : (b.drop k).set 0 (a.getD k d) = a.getD k d :: b.drop (k + 1) := by rw [List.drop_eq_getElem_cons (show k < b.length by omega)]; rfl
  have h3 : a.take (k + 1) = a.take k ++ [a.getD k d] := by
    rw [List.take_add_one]
    simp [List.getD, List.getElem?_eq_getElem hk]
  rw [List.set_append_right _ _ (by rw [h1]; exact Nat.le_refl _), h1, Nat.sub_self, h2, h3, List.append_assoc]
  rfl
theorem mixL_getD {α : Type} (a b : List α) (k : Nat) (d : α) (h : b.length = a.length) (hk : k ≤ a.length) (i : Nat) : (mixL a b k).getD i d = if i < k then a.getD i d else b.getD i d := by
  unfold mixL
  have h1 : (a.take k).length = k := by rw [List.length_take]; omega
  split
  · rename_i hik
    rw [List.getD_eq_getElem?_getD, List.getElem?_append_left (by omega), List.getElem?_take_of_lt hik, ← List.getD_eq_getElem?_getD]
  · rename_i hik
    rw [List.getD_eq_getElem?_getD, List.getElem?_append_right (by omega), h1, List.getElem?_drop, show k + (i - k) = i by omega, ← List.getD_eq_getElem?_getD]
theorem mixL_map {α β : Type} (f : α → β) (a b : List α) (k : Nat) : (mixL a b k).map f = mixL (a.map f) (b.map f) k := by simp [mixL, List.map_take, List.map_drop]
theorem SecsAt.mix {W : World} {B : Nat} {r : List Row} {va vb : List Value} {la lb : List (List UInt8)} {n k : Nat} (ha : SecsAt W B r va la n) (hb : SecsAt W B r vb lb n) (hla : la.length = n) (hlb : lb.length = n) (hk : k ≤ n) : SecsAt W B r (mixL va vb k) (mixL la lb k) n := by
  refine ⟨by rw [mixL_len _ _ _ (by rw [ha.1, hb.1]) (by rw [ha.1]; exact hk), ha.1], fun i hi => ?_⟩
  rw [mixL_getD _ _ _ _ (by rw [ha.1, hb.1]) (by rw [ha.1]; exact hk), mixL_getD _ _ _ _ (by rw [hla, hlb]) (by rw [hla]; exact hk)]
  split
  · exact ha.2 i hi
  · exact hb.2 i hi
section
variable (W : World) (B : Nat)
theorem rdev_Flush_no (r : RD) (n : Nat) (s : DevS) (hr : r.Ok W B n s) (hd : s.down = true) : Spec Tryd.prog W B 39 [.pointer (some ⟨r.q, 0, none⟩)] (r.rows n s) (fun v post => v = .int .i64 9 ∧ post = r.rows n s) := by
  have hdn := rdev_Down W B r n s hr
  rw [hd] at hdn
  refine Spec.enter ([[cr r.q 71 (rdHead r n s)], r.chN, r.chS, [cr r.bl 4 (s.loose.map .bool)], r.ar]) Tryd.func39 rfl Tryd.ntmps39 rfl (by first | rfl | simp [RD.rows, rdHead]) (fun w0 => ?_)
  refine CW.seq ?_
  refine CW.region ?_
  refine LW.assign rfl rfl ?_
  refine LW.nil ?_
  refine NW.then_ ?_
  refine CW.seq ?_
  refine CW.seq ?_
  refine CW.region ?_
  refine LW.move rfl rfl ?_
  refine LW.call (hdn) Tryd.func41 rfl FactsRDev3.fname41 ⟨rfl, trivial⟩ ((Take.rd (by repeat (first | exact Take.head _ _ | apply Take.tail)) (by repeat (first | exact Take.head _ _ | apply Take.tail)) (by repeat (first | exact Take.head _ _ | apply Take.tail)) (by repeat (first | exact Take.head _ _ | apply Take.tail)) (by repeat (first | exact Take.head _ _ | apply Take.tail)))) rfl ?_
  rintro _ _ ⟨rfl, rfl⟩; refine LW.openR ?_
  refine LW.nil ?_
  refine NW.then_ ?_
  refine CW.cond_true rfl ?_
  refine CW.seq ?_
  refine CW.region ?_
  refine LW.assign rfl rfl ?_
  refine LW.nil ?_
  refine NW.then_ ?_
  refine CW.ret ?_
  refine NW.then_ret ?_
  refine NW.ret1 rfl rfl ⟨_, ⟨rfl, rfl⟩, ?_⟩
  exact Sub.one (Take.rd (by repeat (first | exact Take.head _ _ | apply Take.tail)) (by repeat (first | exact Take.head _ _ | apply Take.tail)) (by repeat (first | exact Take.head _ _ | apply Take.tail)) (by repeat (first | exact Take.head _ _ | apply Take.tail)) (by repeat (first | exact Take.head _ _ | apply Take.tail)))
set_option maxHeartbeats 1000000 in
theorem rdev_Flush_ok (r : RD) (n : Nat) (s : DevS) (hr : r.Ok W B n s) (hd : s.down = false) : Spec Tryd.prog W B 39 [.pointer (some ⟨r.q, 0, none⟩)] (r.rows n s) (fun v post => v = .int .i64 0 ∧ ∃ r' : RD, r'.q = r.q ∧ r'.Ok W B n (s.saved n).burn ∧ post = r'.rows n (s.saved n).burn) := by
  have hdn := rdev_Down W B r n s hr
  rw [hd] at hdn
  have hsp := rdev_spend W B r n s hr.ok hd
  have hpb : (s.saved n).burn = s.burn.saved n := by unfold DevS.burn DevS.saved; split <;> rename_i h <;> simp only [] at h <;> simp [h]
  have hn0 := hr.ok.n0
  have hn1 := hr.ok.n1
  have hbl : s.burn.loose = s.loose := by unfold DevS.burn; split <;> rfl
  have hll := hr.ok.loose
  rcases hr.ownN with ⟨_, h, _⟩ | ⟨bN, capN, slN, hvN, hlN, hcN, hslN, hchN⟩
  · omega
  rcases hr.ownS with ⟨_, h, _⟩ | ⟨bS, capS, slS, hvS, hlS, hcS, hslS, hchS⟩
  · omega
  rw [hpb]
  refine Spec.enter ([[cr r.q 71 (rdHead r n s)], r.chN, r.chS, [cr r.bl 4 (s.loose.map .bool)], r.ar]) Tryd.func39 rfl Tryd.ntmps39 rfl (by first | rfl | simp [RD.rows, rdHead]) (fun w0 => ?_)
  refine CW.seq ?_
  refine CW.region ?_
  refine LW.assign rfl rfl ?_
  refine LW.nil ?_
  refine NW.then_ ?_
  refine CW.seq ?_
  refine CW.seq ?_
  refine CW.region ?_
  refine LW.move rfl rfl ?_
  refine LW.call (hdn) Tryd.func41 rfl FactsRDev3.fname41 ⟨rfl, trivial⟩ ((Take.rd (by repeat (first | exact Take.head _ _ | apply Take.tail)) (by repeat (first | exact Take.head _ _ | apply Take.tail)) (by repeat (first | exact Take.head _ _ | apply Take.tail)) (by repeat (first | exact Take.head _ _ | apply Take.tail)) (by repeat (first | exact Take.head _ _ | apply Take.tail)))) rfl ?_
  rintro _ _ ⟨rfl, rfl⟩; refine LW.openR ?_
  refine LW.nil ?_
  refine NW.then_ ?_
  refine CW.cond_false rfl ?_
  refine CW.skip ?_
  refine NW.then_ ?_
  refine CW.seq ?_
  refine CW.region ?_
  refine LW.move rfl rfl ?_
  refine LW.call (hsp) Tryd.func54 rfl FactsRDev3.fname54 ⟨rfl, trivial⟩ ((Take.rd (by repeat (first | exact Take.head _ _ | apply Take.tail)) (by repeat (first | exact Take.head _ _ | apply Take.tail)) (by repeat (first | exact Take.head _ _ | apply Take.tail)) (by repeat (first | exact Take.head _ _ | apply Take.tail)) (by repeat (first | exact Take.head _ _ | apply Take.tail)))) rfl ?_
  rintro _ _ ⟨rfl, rfl⟩; refine LW.openR ?_; rw [hchN, hchS, hbl]
  refine LW.nil ?_
  refine NW.then_ ?_
  refine CW.seq ?_
  refine CW.seq ?_
  refine CW.region ?_
  refine LW.move rfl rfl ?_
  refine LW.nilPtr rfl rfl ?_
  refine LW.fieldAddr _ rfl (fun _ => FactsRDev3.fa71_0 _ _ _) rfl ?_
  refine LW.load (v := .slice (some ⟨bN, 0, none⟩) n capN) rfl (by repeat (first | exact Take.head _ _ | apply Take.tail)) ((by rw [← hvN]; rfl)) FactsRDev3.one51 rfl ?_
  refine LW.lenSlice rfl Tryd.underlying51 rfl ?_
  refine LW.move rfl rfl ?_
  refine LW.nil ?_
  refine NW.then_ ?_
  refine CW.block ?_
  refine CW.loop (fun k : Nat => [(13, .int .i64 (k : Int)), (12, .int .i64 (n : Int)), (0, .pointer (some ⟨r.q, 0, none⟩))]) (fun k => [[cr r.q 71 (rdHead r n s.burn)], [cr bN 26 (r.nv ++ slN)], [cr bS 26 (mixL r.nv r.sv k ++ slS)], [cr r.bl 4 (mixL (List.replicate n (Value.bool false)) (s.loose.map .bool) k)], r.ar]) (fun k => k ≤ n) (fun k => n - k) 0 ?st5_j ?st5_e ?st5_h ?st5_r
  case st5_j => exact Nat.zero_le _
  case st5_e => repeat (first | exact Env.Le.nil _ | refine Env.Le.cons rfl ?_)
  case st5_h => repeat (first | exact Sub.heap_nil _ | exact Sub.refl _ | refine Sub.heap_cons (by repeat (first | exact Take.head _ _ | apply Take.tail)) ?_)
  case st5_r =>
    intro k hk
    try dsimp only
    refine CW.seq ?_
    refine CW.region ?_
    refine LW.lss _ rfl rfl rfl rfl ?_
    refine LW.nil ?_
    refine NW.then_ ?_
    refine CW.seq ?_
    refine CW.cond rfl (fun hc14 => ?_) (fun hc14 => ?_)
    · replace hc14 := of_decide_eq_true hc14
      try dsimp only at hc14
      have hkn : k < n := by omega
      have hms : (mixL r.nv r.sv k).length = n := by rw [mixL_len _ _ _ (by omega) (by omega)]; omega
      have hml : (mixL (List.replicate n (Value.bool false)) (s.loose.map .bool) k).length = n := by rw [mixL_len _ _ _ (by simp [hll]) (by simp; omega)]; simp
      refine CW.skip ?_
      refine NW.then_ ?_
      refine CW.seq ?_
      refine CW.block ?_
      refine CW.seq ?_
      refine CW.region ?_
      refine LW.move rfl rfl ?_
      refine LW.assign rfl rfl ?_
      refine LW.nil ?_
      refine NW.then_ ?_
      refine CW.drawH [cr r.q 71 (rdHead r n s.burn), cr bN 26 (r.nv ++ slN)] FactsRDev3.mixed ?_
      refine AW.takes [0, 1, 2, 3, 4, 5, 6, 7, 8, 9, 10, 11, 12, 13, 14, 15, 16, 17] 3 (by kernel_rfl) (by kernel_rfl) rfl (by repeat (first | exact PO.body | refine PO.then_ ?_ | refine PO.block ?_ | refine PO.noGoto ?_)) (fun _ s => Held.of s (by repeat (first | exact Sub.nil _ | refine Sub.cons1 (by repeat (first | exact Take.head _ _ | apply Take.tail)) ?_))) ?_
      refine TW.take rfl (Yl.move rfl) rfl ?_
      refine TW.take rfl (Yl.nilPtr rfl) rfl ?_
      refine TW.take rfl (Yl.fieldAddr _ rfl (fun _ => FactsRDev3.fa71_1 _ _ _)) rfl ?_
      refine TW.take rfl (Yl.load (v := .slice (some ⟨bS, 0, none⟩) n capS) rfl (by repeat (first | exact List.Mem.head _ | refine List.Mem.tail _ ?_)) ((by rw [← hvS]; rfl)) FactsRDev3.one51) rfl ?_
      refine TW.take rfl (Yl.move rfl) rfl ?_
      refine TW.take rfl (Yl.move rfl) rfl ?_
      refine TW.take rfl (Yl.nilPtr rfl) rfl ?_
      refine TW.take rfl (Yl.fieldAddr _ rfl (fun _ => FactsRDev3.fa71_2 _ _ _)) rfl ?_
      refine TW.take rfl (Yl.load (v := .slice (some ⟨r.bl, 0, none⟩) n n) rfl (by repeat (first | exact List.Mem.head _ | refine List.Mem.tail _ ?_)) (rfl) FactsRDev3.one22) rfl ?_
      refine TW.take rfl (Yl.move rfl) rfl ?_
      refine TW.take rfl (Yl.move rfl) rfl ?_
      refine TW.take rfl (Yl.nilPtr rfl) rfl ?_
      refine TW.take rfl (Yl.fieldAddr _ rfl (fun _ => FactsRDev3.fa71_0 _ _ _)) rfl ?_
      refine TW.take rfl (Yl.load (v := .slice (some ⟨bN, 0, none⟩) n capN) rfl (by repeat (first | exact List.Mem.head _ | refine List.Mem.tail _ ?_)) ((by rw [← hvN]; rfl)) FactsRDev3.one51) rfl ?_
      refine TW.take rfl (Yl.move rfl) rfl ?_
      refine TW.take rfl (Yl.indexAddr (k) rfl rfl Tryd.underlying51 FactsRDev3.ixs51 (by omega) (by omega) (by simp)) rfl ?_
      refine TW.take rfl (Yl.load (v := r.nv.getD k undef) rfl (by repeat (first | exact List.Mem.head _ | refine List.Mem.tail _ ?_)) ((by rw [List.getElem?_append_left (by omega)]; exact hr.secN.get hkn)) FactsRDev3.one26) rfl ?_
      refine TW.take rfl (Yl.indexAddr (k) rfl rfl Tryd.underlying51 FactsRDev3.ixs51 (by omega) (by omega) (by simp)) rfl ?_
      refine TW.nil ?_
      refine AW.act 18 (by kernel_rfl) rfl ?_
      refine LW.store rfl rfl (by repeat (first | exact Take.head _ _ | apply Take.tail)) (by rw [List.length_append]; omega) FactsRDev3.sz26 ((hr.secN.2 k hkn).one) ?_
      rw [List.set_append_left _ _ (by omega), mixL_set _ _ _ _ (by omega) (by omega)]
      refine LW.nil ?_
      refine AW.back (fun _ s => Held.of s (by repeat (first | exact Sub.nil _ | refine Sub.cons1 (by repeat (first | exact Take.head _ _ | apply Take.tail)) ?_))) ?_
      refine AW.takes [19] 1 (by kernel_rfl) (by kernel_rfl) rfl (by repeat (first | exact PO.body | refine PO.then_ ?_ | refine PO.block ?_ | refine PO.noGoto ?_)) (fun _ s => Held.of s (by repeat (first | exact Sub.nil _ | refine Sub.cons1 (by repeat (first | exact Take.head _ _ | apply Take.tail)) ?_))) ?_
      refine TW.take rfl (Yl.indexAddr (k) rfl rfl Tryd.underlying22 FactsRDev3.ixs22 (by omega) (by omega) (by simp)) rfl ?_
      refine TW.nil ?_
      refine AW.act 20 (by kernel_rfl) rfl ?_
      refine LW.store rfl rfl (by repeat (first | exact Take.head _ _ | apply Take.tail)) (by omega) FactsRDev3.sz4 (rfl) ?_
      rw [show (mixL (List.replicate n (Value.bool false)) (s.loose.map .bool) k).set k (.bool false) = mixL (List.replicate n (Value.bool false)) (s.loose.map .bool) (k + 1) from by (have := mixL_set (List.replicate n (Value.bool false)) (s.loose.map .bool) k (.bool false) (by simp [hll]) (by simpa using hkn)); rwa [show (List.replicate n (Value.bool false)).getD k (.bool false) = .bool false from by simp [List.getD, hkn]] at this]
      refine LW.nil ?_
      refine AW.back (fun _ s => Held.of s (by repeat (first | exact Sub.nil _ | refine Sub.cons1 (by repeat (first | exact Take.head _ _ | apply Take.tail)) ?_))) ?_
      refine AW.done (by kernel_rfl) ?_
      refine NW.block ?_
      refine NW.then_ ?_
      refine CW.region ?_
      refine LW.add64 rfl rfl (by omega) (by omega) rfl ?_
      refine LW.move rfl rfl ?_
      refine LW.nil ?_
      refine NW.meet (k + 1) ?j1 ?e1 ?h1
      case j1 => exact ⟨by omega, by omega⟩
      case e1 => repeat (first | exact Env.Le.nil _ | refine Env.Le.cons rfl ?_)
      case h1 => repeat (first | exact Sub.heap_nil _ | exact Sub.refl _ | refine Sub.heap_cons (by repeat (first | exact Take.head _ _ | apply Take.tail)) ?_)
    · replace hc14 := of_decide_eq_false hc14
      try dsimp only at hc14
      have hkn : k = n := by omega
      subst hkn
      refine CW.exit ?_
      refine NW.then_exit ?_
      refine NW.then_exit ?_
      refine NW.block_exit ?_
      refine NW.then_ ?_
      refine CW.seq ?_
      refine CW.region ?_
      refine LW.assign rfl rfl ?_
      refine LW.nil ?_
      refine NW.then_ ?_
      refine CW.ret ?_
      refine NW.ret1 rfl rfl ⟨_, ⟨rfl, { r with sv := r.nv, chN := [cr bN 26 (r.nv ++ slN)], chS := [cr bS 26 (r.nv ++ slS)] }, rfl, ⟨.inr ⟨bN, capN, slN, hvN, hlN, hcN, hslN, rfl⟩, .inr ⟨bS, capS, slS, hvS, hlN, hcS, hslS, rfl⟩, by
        have hnow : (s.burn.saved k).now = s.now := by unfold DevS.burn; split <;> rfl
        rw [hnow]; exact hr.secN, by
        have hwas : (s.burn.saved k).was = s.now := by unfold DevS.burn; split <;> rfl
        rw [hwas]; exact hr.secN, by
        rw [← hpb]; exact hr.ok.saved.burn hd, burn_dn hr.dn⟩, rfl⟩, ?_⟩
      (have e1 : mixL r.nv r.sv k = r.nv := by (have := mixL_all r.nv r.sv (by omega)); rwa [show r.nv.length = k by omega] at this); (have e2 : mixL (List.replicate k (Value.bool false)) (s.loose.map .bool) k = (List.replicate k false).map .bool := by (have := mixL_all (List.replicate k (Value.bool false)) (s.loose.map .bool) (by simp [hll])); rw [List.length_replicate] at this; rw [this, List.map_replicate]); rw [e1, e2]; exact Sub.one (Take.rd (by repeat (first | exact Take.head _ _ | apply Take.tail)) (by repeat (first | exact Take.head _ _ | apply Take.tail)) (by repeat (first | exact Take.head _ _ | apply Take.tail)) (by repeat (first | exact Take.head _ _ | apply Take.tail)) (by repeat (first | exact Take.head _ _ | apply Take.tail)))

theorem rdev_LooseList (r : RD) (n : Nat) (s : DevS) (hs : s.Ok n) :
    Spec Tryd.prog W B 55 [.pointer (some ⟨r.q, 0, none⟩)] (r.rows n s) (fun v post => ∃ ch, OwnS 3 1 v (looseTo s n).length ((looseTo s n).map intV) ch ∧ post = ch ++ r.rows n s) := by
  have hn := hs.n1
  have hlt : ∀ k, k < n → (s.loose.map Value.bool)[k]? = some (.bool (s.loose.getD k false)) := fun k hk => by
    have : k < s.loose.length := by rw [hs.loose]; exact hk
    simp [List.getD, List.getElem?_eq_getElem this]
  refine Spec.enter ([[cr r.q 71 (rdHead r n s)], r.chN, r.chS, [cr r.bl 4 (s.loose.map .bool)], r.ar]) Tryd.func55 rfl Tryd.ntmps55 rfl (by first | rfl | simp [RD.rows, rdHead]) (fun w0 => ?_)
  refine CW.seq ?_
  refine CW.region ?_
  refine LW.assign rfl rfl ?_
  refine LW.nil ?_
  refine NW.then_ ?_
  refine CW.seq ?_
  refine CW.region ?_
  refine LW.assign rfl rfl ?_
  refine LW.nil ?_
  refine NW.then_ ?_
  refine CW.seq ?_
  refine CW.seq ?_
  refine CW.region ?_
  refine LW.move rfl rfl ?_
  refine LW.nilPtr rfl rfl ?_
  refine LW.fieldAddr _ rfl (fun _ => FactsRDev3.fa71_2 _ _ _) rfl ?_
  refine LW.load (v := .slice (some ⟨r.bl, 0, none⟩) n n) rfl (by repeat (first | exact Take.head _ _ | apply Take.tail)) (rfl) FactsRDev3.one22 rfl ?_
  refine LW.lenSlice rfl Tryd.underlying22 rfl ?_
  refine LW.move rfl rfl ?_
  refine LW.nil ?_
  refine NW.then_ ?_
  refine CW.block ?_
  refine CW.loop (fun st : Nat × Value × List Row => [(10, .int .i64 (st.1 : Int)), (9, .int .i64 (n : Int)), (3, st.2.1), (0, .pointer (some ⟨r.q, 0, none⟩))]) (fun st => st.2.2 :: [[cr r.q 71 (rdHead r n s)], r.chN, r.chS, [cr r.bl 4 (s.loose.map .bool)], r.ar]) (fun st => st.1 ≤ n ∧ OwnS 3 1 st.2.1 (looseTo s st.1).length ((looseTo s st.1).map intV) st.2.2) (fun st => n - st.1) (0, .slice none 0 0, []) ?st3_j ?st3_e ?st3_h ?st3_r
  case st3_j => exact ⟨Nat.zero_le _, OwnS.nil⟩
  case st3_e => repeat (first | exact Env.Le.nil _ | refine Env.Le.cons rfl ?_)
  case st3_h => repeat (first | exact Sub.heap_nil _ | exact Sub.refl _ | refine Sub.heap_cons (by repeat (first | exact Take.head _ _ | apply Take.tail)) ?_)
  case st3_r =>
    rintro ⟨k, v, ch⟩ ⟨hk, ho⟩; dsimp only at hk ho
    try dsimp only
    refine CW.seq ?_
    refine CW.region ?_
    refine LW.lss _ rfl rfl rfl rfl ?_
    refine LW.nil ?_
    refine NW.then_ ?_
    refine CW.seq ?_
    refine CW.cond rfl (fun hc11 => ?_) (fun hc11 => ?_)
    · replace hc11 := of_decide_eq_true hc11
      try dsimp only at hc11
      have hkn : k < n := by omega
      refine CW.skip ?_
      refine NW.then_ ?_
      refine CW.seq ?_
      refine CW.block ?_
      refine CW.seq ?_
      refine CW.region ?_
      refine LW.move rfl rfl ?_
      refine LW.assign rfl rfl ?_
      refine LW.nil ?_
      refine NW.then_ ?_
      refine CW.seq ?_
      refine CW.region ?_
      refine LW.move rfl rfl ?_
      refine LW.nilPtr rfl rfl ?_
      refine LW.fieldAddr _ rfl (fun _ => FactsRDev3.fa71_2 _ _ _) rfl ?_
      refine LW.load (v := .slice (some ⟨r.bl, 0, none⟩) n n) rfl (by repeat (first | exact Take.head _ _ | apply Take.tail)) (rfl) FactsRDev3.one22 rfl ?_
      refine LW.move rfl rfl ?_
      refine LW.indexAddr (k) rfl rfl Tryd.underlying22 FactsRDev3.ixs22 (by omega) (by omega) (by simp) rfl ?_
      refine LW.load (v := .bool (s.loose.getD k false)) rfl (by repeat (first | exact Take.head _ _ | apply Take.tail)) (hlt k hkn) FactsRDev3.one4 rfl ?_
      refine LW.nil ?_
      refine NW.then_ ?_
      refine CW.cond rfl (fun hc19 => ?_) (fun hc19 => ?_)
      · have hsu : looseTo s (k + 1) = looseTo s k ++ [k] := by rw [looseTo_succ, hc19]; rfl
        have hll := looseTo_len s k
        refine CW.region ?_
        refine LW.move rfl rfl ?_
        refine LW.move rfl rfl ?_
        refine LW.buildSlice (vs := [_]) ⟨rfl, trivial⟩ rfl (by intro v hv; simp at hv; subst hv; rfl) Tryd.underlying33 FactsRDev3.info3 rfl (by decide) (by decide) rfl ?_
        intro bs22
        refine LW.append ([.int .i64 (k : Int)]) rfl rfl Tryd.underlying33 Tryd.underlying33 (.inr ⟨_, rfl⟩) FactsRDev3.info3 rfl (ho) (by repeat (first | exact Take.head _ _ | apply Take.tail)) (fun _ => lenOf_slice _ _ _ _) (first_rd (RdAt.row (by repeat (first | exact Take.head _ _ | apply Take.tail)) (fun j v hj => by simpa using hj)) rfl (fun h => (by cases h))) (rfl) (by intro u hu; simp at hu; subst hu; rfl) (by omega) (by omega) rfl ?_
        intro v' ch' ho'
        refine LW.assign rfl rfl ?_
        refine LW.nil ?_
        refine NW.block ?_
        refine NW.then_ ?_
        refine CW.region ?_
        refine LW.add64 rfl rfl (by omega) (by omega) rfl ?_
        refine LW.move rfl rfl ?_
        refine LW.nil ?_
        refine NW.meet ((k + 1, v', ch')) ?j1 ?e1 ?h1
        case j1 => exact ⟨⟨hkn, by rw [hsu]; simpa [intV] using ho'⟩, by simp only; omega⟩
        case e1 => repeat (first | exact Env.Le.nil _ | refine Env.Le.cons rfl ?_)
        case h1 => repeat (first | exact Sub.heap_nil _ | exact Sub.refl _ | refine Sub.heap_cons (by repeat (first | exact Take.head _ _ | apply Take.tail)) ?_)
      · have hsu : looseTo s (k + 1) = looseTo s k := by rw [looseTo_succ, hc19]; simp
        refine CW.skip ?_
        refine NW.block ?_
        refine NW.then_ ?_
        refine CW.region ?_
        refine LW.add64 rfl rfl (by omega) (by omega) rfl ?_
        refine LW.move rfl rfl ?_
        refine LW.nil ?_
        refine NW.meet ((k + 1, v, ch)) ?j2 ?e2 ?h2
        case j2 => exact ⟨⟨hkn, by rw [hsu]; exact ho⟩, by simp only; omega⟩
        case e2 => repeat (first | exact Env.Le.nil _ | refine Env.Le.cons rfl ?_)
        case h2 => repeat (first | exact Sub.heap_nil _ | exact Sub.refl _ | refine Sub.heap_cons (by repeat (first | exact Take.head _ _ | apply Take.tail)) ?_)
    · replace hc11 := of_decide_eq_false hc11
      try dsimp only at hc11
      have hkn : k = n := by omega
      subst hkn
      refine CW.exit ?_
      refine NW.then_exit ?_
      refine NW.then_exit ?_
      refine NW.block_exit ?_
      refine NW.then_ ?_
      refine CW.seq ?_
      refine CW.region ?_
      refine LW.move rfl rfl ?_
      refine LW.assign rfl rfl ?_
      refine LW.nil ?_
      refine NW.then_ ?_
      refine CW.ret ?_
      refine NW.ret1 rfl rfl ⟨_, ⟨ch, ho, rfl⟩, ?_⟩
      exact Sub.take (p := ch) (by repeat (first | exact Take.head _ _ | apply Take.tail)) (Sub.one (Take.rd (by repeat (first | exact Take.head _ _ | apply Take.tail)) (by repeat (first | exact Take.head _ _ | apply Take.tail)) (by repeat (first | exact Take.head _ _ | apply Take.tail)) (by repeat (first | exact Take.head _ _ | apply Take.tail)) (by repeat (first | exact Take.head _ _ | apply Take.tail))))
end
end Go.Proofs.YtmgpldgldgdenaaDoor
