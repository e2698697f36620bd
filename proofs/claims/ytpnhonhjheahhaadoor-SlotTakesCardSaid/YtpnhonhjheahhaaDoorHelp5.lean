/-
  Helpers for the walks of the laws of slot, wal and snap.
-/
import Derived.Test.YtpnhonhjheahhaaDoorKept4
import Derived.Test.YtpnhonhjheahhaaDoorConv2
import Derived.Test.YtpnhonhjheahhaaDoorBegun
import Derived.Test.YtpnhonhjheahhaaDoorCut
import Derived.Test.YtpnhonhjheahhaaDoorAllDef
namespace Go.Proofs.YtpnhonhjheahhaaDoor
open Go.RowKit
namespace FactsHelp4
theorem info5 : (Tryd.prog.info? 5).map (fun i => (i.zero, i.size, i.bytes)) = some (some (.int .u8 0), 1, 1) := by kernel_rfl
theorem ixs31 : (Tryd.prog.info? 5).map (·.size) = some 1 := by kernel_rfl
theorem ixs36 : (Tryd.prog.info? 31).map (·.size) = some 1 := by kernel_rfl
theorem ixs47 : (Tryd.prog.info? 2).map (·.size) = some 1 := by kernel_rfl
theorem mixed : Tryd.prog.follows .mixedOrders = true := by kernel_rfl
theorem one2 : oneB Tryd.prog 2 = true := by kernel_rfl
theorem one31 : oneB Tryd.prog 31 = true := by kernel_rfl
theorem sz5 : (Tryd.prog.info? 5).map (·.size) = some 1 := by kernel_rfl
end FactsHelp4
def textB (n : Nat) (x : UInt8) : List UInt8 := (List.range n).map fun i => x + UInt8.ofNat i
theorem textB_len (n : Nat) (x : UInt8) : (textB n x).length = n := by simp [textB]
def textK (n : Nat) (x : UInt8) (k : Nat) : List UInt8 := textB k x ++ List.replicate (n - k) 0
theorem textK_set (n : Nat) (x : UInt8) (k : Nat) (hk : k < n) : ((textK n x k).map u8v).set k (u8v (x + UInt8.ofNat k)) = (textK n x (k + 1)).map u8v := by
  rw [← List.map_set]
  congr 1
  unfold textK
  rw [List.set_append_right _ _ (by rw [textB_len]; exact Nat.le_refl _), textB_len, Nat.sub_self, show n - k = (n - (k + 1)) + 1 by omega, List.replicate_succ]
  simp [textB, List.range_succ]
theorem u8_add (x : UInt8) (k : Nat) : IntKind.u8.wrap ((x.toNat : Int) + ((UInt8.ofNat k).toNat : Int)) = ((x + UInt8.ofNat k).toNat : Int) := by
  rw [wrap_u8, UInt8.toNat_add, UInt8.toNat_ofNat', UInt8.toNat_ofNat']
  omega
theorem zeros_row' (n : Nat) : (madeCells (Value.int .u8 0).cells (n * 1)).toList = (List.replicate n (0 : UInt8)).map u8v := by
  rw [List.map_replicate, Nat.mul_one]
  exact madeCells_rep _ _ _ (by intro x hx; simp [Value.cells] at hx; exact hx) (by simp [Value.cells])
section
variable (W : World) (B : Nat)
theorem law_text (n : Nat) (hn : n ≤ 1000000) (x : UInt8) : Spec Tryd.prog W B 26 [.int .i64 (n : Int), .int .u8 (x.toNat : Int)] [] (fun v post => ∃ b, v = .slice (some ⟨b, 0, none⟩) n n ∧ post = [cr b 5 ((textB n x).map u8v)]) := by
  refine Spec.enter ([]) Tryd.func26 rfl Tryd.ntmps26 rfl (by first | rfl | simp) (fun w0 => ?_)
  refine CW.seq ?_
  refine CW.region ?_
  refine LW.assign rfl rfl ?_
  refine LW.nil ?_
  refine NW.then_ ?_
  refine CW.seq ?_
  refine CW.region ?_
  refine LW.move rfl rfl ?_
  refine LW.make (n) (n) ((textK n x 0).map u8v) rfl rfl (by first | rfl | omega) (by first | rfl | omega) Tryd.underlying31 FactsHelp4.info5 (by omega) (by omega) (by omega) (by rw [zeros_row']; rfl) rfl ?_
  intro bm8
  refine LW.assign rfl rfl ?_
  refine LW.nil ?_
  refine NW.then_ ?_
  refine CW.seq ?_
  refine CW.seq ?_
  refine CW.region ?_
  refine LW.move rfl rfl ?_
  refine LW.lenSlice rfl Tryd.underlying31 rfl ?_
  refine LW.move rfl rfl ?_
  refine LW.nil ?_
  refine NW.then_ ?_
  refine CW.block ?_
  refine CW.loop (fun k : Nat => [(11, .int .i64 (k : Int)), (10, .int .i64 (n : Int)), (5, .slice (some ⟨bm8, 0, none⟩) n n), (1, .int .u8 (x.toNat : Int))]) (fun k => [[cr bm8 5 ((textK n x k).map u8v)]]) (fun k => k ≤ n) (fun k => n - k) 0 ?st3_j ?st3_e ?st3_h ?st3_r
  case st3_j => exact Nat.zero_le _
  case st3_e => repeat (first | exact Env.Le.nil _ | refine Env.Le.cons rfl ?_)
  case st3_h => repeat (first | exact Sub.heap_nil _ | exact Sub.refl _ | refine Sub.heap_cons (Take.none _) ?_ | refine Sub.heap_cons (by repeat (first | exact Take.head _ _ | apply Take.tail)) ?_)
  case st3_r =>
    intro k hk
    try dsimp only
    refine CW.seq ?_
    refine CW.region ?_
    refine LW.lss _ rfl rfl rfl rfl ?_
    refine LW.nil ?_
    refine NW.then_ ?_
    refine CW.seq ?_
    refine CW.cond rfl (fun hc12 => ?_) (fun hc12 => ?_)
    · replace hc12 := of_decide_eq_true hc12
      try dsimp only at hc12
      have hkn : k < n := by omega
      refine CW.skip ?_
      refine NW.then_ ?_
      refine CW.seq ?_
      refine CW.block ?_
      refine CW.seq ?_
      refine CW.region ?_
      refine LW.move rfl rfl ?_
      refine LW.assign rfl rfl ?_
      refine LW.nil ?_
      refine NW.then_ ?_
      refine CW.region ?_
      refine LW.move rfl rfl ?_
      refine LW.move rfl rfl ?_
      refine LW.move rfl rfl ?_
      refine LW.move rfl rfl ?_
      refine LW.convInt (((UInt8.ofNat k).toNat : Int)) rfl Tryd.underlying3 Tryd.underlying5 (u8len k) rfl ?_
      refine LW.add (((x + UInt8.ofNat k).toNat : Int)) rfl rfl (u8_add x k) rfl ?_
      refine LW.indexAddr (k) rfl rfl Tryd.underlying31 FactsHelp4.ixs31 (by omega) (by omega) (by simp) rfl ?_
      refine LW.store rfl rfl (by repeat (first | exact Take.head _ _ | apply Take.tail)) (by rw [List.length_map, textK, List.length_append, textB_len, List.length_replicate]; omega) FactsHelp4.sz5 (rfl) ?_
      rw [show Value.int .u8 ((x + UInt8.ofNat k).toNat : Int) = u8v (x + UInt8.ofNat k) from rfl, textK_set n x k hkn]
      refine LW.nil ?_
      refine NW.block ?_
      refine NW.then_ ?_
      refine CW.region ?_
      refine LW.add64 rfl rfl (by omega) (by omega) rfl ?_
      refine LW.move rfl rfl ?_
      refine LW.nil ?_
      refine NW.meet (k + 1) ?j1 ?e1 ?h1
      case j1 => exact ⟨by omega, by omega⟩
      case e1 => repeat (first | exact Env.Le.nil _ | refine Env.Le.cons rfl ?_)
      case h1 => repeat (first | exact Sub.heap_nil _ | exact Sub.refl _ | refine Sub.heap_cons (Take.none _) ?_ | refine Sub.heap_cons (by repeat (first | exact Take.head _ _ | apply Take.tail)) ?_)
    · replace hc12 := of_decide_eq_false hc12
      try dsimp only at hc12
      have hkn : k = n := by omega
      subst hkn
      refine CW.exit ?_
      refine NW.then_exit ?_
      refine NW.then_exit ?_
      refine NW.block_exit ?_
      refine NW.then_ ?_
      refine CW.seq ?_
      refine CW.region ?_
      refine LW.move rfl rfl ?_
      refine LW.assign rfl rfl ?_
      refine LW.nil ?_
      refine NW.then_ ?_
      refine CW.ret ?_
      refine NW.ret1 rfl rfl ⟨_, ⟨bm8, rfl, rfl⟩, ?_⟩
      rw [show textB k x = textK k x k from by simp [textK]]; exact Sub.one (by repeat (first | exact Take.head _ _ | apply Take.tail))

set_option maxHeartbeats 1000000 in
theorem law_records (src : List Row) (A1 A2 : Option Addr) (cp1 cp2 : Nat) (l1 l2 : List (List UInt8)) (vs1 vs2 : List Value) (hs1 : Src W B src A1 vs1) (hr1 : RecsAt W B src vs1 l1) (hs2 : Src W B src A2 vs2) (hr2 : RecsAt W B src vs2 l2) (hc1 : l1.length ≤ 1000000000) (hc2 : l2.length ≤ 1000000000) :
    Spec Tryd.prog W B 30 [.slice A1 l1.length cp1, .slice A2 l2.length cp2] src (fun v post => v = .bool (decide (l1 = l2)) ∧ post = src) := by
  refine Spec.enter ([src]) Tryd.func30 rfl Tryd.ntmps30 rfl (by first | rfl | simp) (fun w0 => ?_)
  refine CW.seq ?_
  refine CW.region ?_
  refine LW.assign rfl rfl ?_
  refine LW.nil ?_
  refine NW.then_ ?_
  refine CW.seq ?_
  refine CW.seq ?_
  refine CW.region ?_
  refine LW.move rfl rfl ?_
  refine LW.lenSlice rfl Tryd.underlying36 rfl ?_
  refine LW.move rfl rfl ?_
  refine LW.lenSlice rfl Tryd.underlying36 rfl ?_
  by_cases hl : l1.length = l2.length
  · refine LW.neq false rfl rfl (bne_eq_false_iff_eq.2 (by omega)) rfl ?_
    refine LW.nil ?_
    refine NW.then_ ?_
    refine CW.cond_false rfl ?_
    refine CW.skip ?_
    refine NW.then_ ?_
    refine CW.seq ?_
    refine CW.seq ?_
    refine CW.region ?_
    refine LW.move rfl rfl ?_
    refine LW.lenSlice rfl Tryd.underlying36 rfl ?_
    refine LW.move rfl rfl ?_
    refine LW.nil ?_
    refine NW.then_ ?_
    refine CW.block ?_
    refine CW.loop (fun k : Nat => [(13, .int .i64 (k : Int)), (12, .int .i64 (l1.length : Int)), (1, .slice A2 l2.length cp2), (0, .slice A1 l1.length cp1)]) (fun _ => [src]) (fun k => k ≤ l1.length ∧ ∀ i, i < k → l1.getD i [] = l2.getD i []) (fun k => l1.length - k) 0 ?st4_j ?st4_e ?st4_h ?st4_r
    case st4_j => exact ⟨Nat.zero_le _, fun i h => by omega⟩
    case st4_e => repeat (first | exact Env.Le.nil _ | refine Env.Le.cons rfl ?_)
    case st4_h => repeat (first | exact Sub.heap_nil _ | exact Sub.refl _ | refine Sub.heap_cons (Take.none _) ?_ | refine Sub.heap_cons (by repeat (first | exact Take.head _ _ | apply Take.tail)) ?_)
    case st4_r =>
      rintro k ⟨hk, heq⟩
      try dsimp only
      refine CW.seq ?_
      refine CW.region ?_
      refine LW.lss _ rfl rfl rfl rfl ?_
      refine LW.nil ?_
      refine NW.then_ ?_
      refine CW.seq ?_
      refine CW.cond rfl (fun hc14 => ?_) (fun hc14 => ?_)
      · replace hc14 := of_decide_eq_true hc14
        try dsimp only at hc14
        have hkn : k < l1.length := by omega
        obtain ⟨a1, rfl⟩ : ∃ a, A1 = some a := hs1.some (by rw [hr1.1]; omega)
        obtain ⟨a2, rfl⟩ : ∃ a, A2 = some a := hs2.some (by rw [hr2.1]; omega)
        obtain ⟨B1, q1, hv1, hx1, _, _⟩ := hr1.2 k hkn
        obtain ⟨B2, q2, hv2, hx2, _, _⟩ := hr2.2 k (by omega)
        have hg1 : vs1[k]? = some (.slice B1 (l1.getD k []).length q1) := by rw [← hv1]; simp [List.getD, List.getElem?_eq_getElem (show k < vs1.length by rw [hr1.1]; exact hkn)]
        have hg2 : vs2[k]? = some (.slice B2 (l2.getD k []).length q2) := by rw [← hv2]; simp [List.getD, List.getElem?_eq_getElem (show k < vs2.length by rw [hr2.1]; omega)]
        refine CW.skip ?_
        refine NW.then_ ?_
        refine CW.seq ?_
        refine CW.block ?_
        refine CW.seq ?_
        refine CW.region ?_
        refine LW.move rfl rfl ?_
        refine LW.assign rfl rfl ?_
        refine LW.nil ?_
        refine NW.then_ ?_
        refine CW.seq ?_
        refine CW.quiet FactsHelp4.mixed (by kernel_rfl) ?_
        refine QW.step (Yl.move rfl) rfl ?_
        refine QW.step (Yl.move rfl) rfl ?_
        refine QW.step (Yl.indexAt rfl rfl Tryd.underlying36 FactsHelp4.ixs36 (by omega) (by omega)) rfl ?_
        refine QW.step (Yl.loadRd (v := .slice B1 (l1.getD k []).length q1) rfl (hs1.rd (by repeat (first | exact Take.head _ _ | apply Take.tail))) (by simpa using hg1) FactsHelp4.one31) rfl ?_
        refine QW.step (Yl.bytesRd (l1.getD k []) rfl Tryd.underlying31 Tryd.underlying5 Tryd.underlying9 (hx1.rd (by repeat (first | exact Take.head _ _ | apply Take.tail))) (rfl)) rfl ?_
        refine QW.step (Yl.move rfl) rfl ?_
        refine QW.step (Yl.move rfl) rfl ?_
        refine QW.step (Yl.indexAt rfl rfl Tryd.underlying36 FactsHelp4.ixs36 (by omega) (by omega)) rfl ?_
        refine QW.step (Yl.loadRd (v := .slice B2 (l2.getD k []).length q2) rfl (hs2.rd (by repeat (first | exact Take.head _ _ | apply Take.tail))) (by simpa using hg2) FactsHelp4.one31) rfl ?_
        refine QW.step (Yl.bytesRd (l2.getD k []) rfl Tryd.underlying31 Tryd.underlying5 Tryd.underlying9 (hx2.rd (by repeat (first | exact Take.head _ _ | apply Take.tail))) (rfl)) rfl ?_
        by_cases hek : l1.getD k [] = l2.getD k []
        · refine QW.step (Yl.strNeq (false) rfl rfl Tryd.underlying9 (decide_eq_false (by simp only [ne_eq, Decidable.not_not]; exact hek))) rfl ?_
          refine QW.nil ?_
          refine NW.then_ ?_
          refine CW.cond_false rfl ?_
          refine CW.skip ?_
          refine NW.block ?_
          refine NW.then_ ?_
          refine CW.region ?_
          refine LW.add64 rfl rfl (by omega) (by omega) rfl ?_
          refine LW.move rfl rfl ?_
          refine LW.nil ?_
          refine NW.meet (k + 1) ?j1 ?e1 ?h1
          case j1 => exact ⟨⟨by omega, fun i hi => by
            rcases Nat.lt_or_ge i k with h | h
            · exact heq i h
            · obtain rfl : i = k := by omega
              exact hek⟩, by omega⟩
          case e1 => repeat (first | exact Env.Le.nil _ | refine Env.Le.cons rfl ?_)
          case h1 => repeat (first | exact Sub.heap_nil _ | exact Sub.refl _ | refine Sub.heap_cons (Take.none _) ?_ | refine Sub.heap_cons (by repeat (first | exact Take.head _ _ | apply Take.tail)) ?_)
        · refine QW.step (Yl.strNeq (true) rfl rfl Tryd.underlying9 (decide_eq_true (by exact hek))) rfl ?_
          refine QW.nil ?_
          refine NW.then_ ?_
          refine CW.cond_true rfl ?_
          refine CW.seq ?_
          have hne : l1 ≠ l2 := fun h => hek (by rw [h])
          refine CW.region ?_
          refine LW.assign rfl rfl ?_
          refine LW.nil ?_
          refine NW.then_ ?_
          refine CW.ret ?_
          refine NW.block_ret ?_
          refine NW.then_ret ?_
          refine NW.then_ret ?_
          refine NW.block_ret ?_
          refine NW.then_ret ?_
          refine NW.ret1 rfl rfl ⟨_, ⟨by rw [decide_eq_false hne], rfl⟩, ?_⟩
          exact Sub.one (by repeat (first | exact Take.head _ _ | apply Take.tail))
      · replace hc14 := of_decide_eq_false hc14
        try dsimp only at hc14
        have hall : l1 = l2 := by
          apply List.ext_getElem hl
          intro j h1 h2
          have := heq j (by omega)
          simpa [List.getD, List.getElem?_eq_getElem h1, List.getElem?_eq_getElem h2] using this
        refine CW.exit ?_
        refine NW.then_exit ?_
        refine NW.then_exit ?_
        refine NW.block_exit ?_
        refine NW.then_ ?_
        refine CW.seq ?_
        refine CW.region ?_
        refine LW.assign rfl rfl ?_
        refine LW.nil ?_
        refine NW.then_ ?_
        refine CW.ret ?_
        refine NW.ret1 rfl rfl ⟨_, ⟨by rw [decide_eq_true hall], rfl⟩, ?_⟩
        exact Sub.one (by repeat (first | exact Take.head _ _ | apply Take.tail))
  · refine LW.neq true rfl rfl (bne_iff_ne.2 (by omega)) rfl ?_
    refine LW.nil ?_
    refine NW.then_ ?_
    refine CW.cond_true rfl ?_
    refine CW.seq ?_
    have hne : l1 ≠ l2 := fun h => hl (by rw [h])
    refine CW.region ?_
    refine LW.assign rfl rfl ?_
    refine LW.nil ?_
    refine NW.then_ ?_
    refine CW.ret ?_
    refine NW.then_ret ?_
    refine NW.ret1 rfl rfl ⟨_, ⟨by rw [decide_eq_false hne], rfl⟩, ?_⟩
    exact Sub.one (by repeat (first | exact Take.head _ _ | apply Take.tail))

theorem law_ints (src : List Row) (A1 A2 : Option Addr) (cp1 cp2 : Nat) (l1 l2 : List Int) (hs1 : Src W B src A1 (l1.map i64v)) (hs2 : Src W B src A2 (l2.map i64v)) (hc1 : l1.length ≤ 1000000000) (hc2 : l2.length ≤ 1000000000) :
    Spec Tryd.prog W B 38 [.slice A1 l1.length cp1, .slice A2 l2.length cp2] src (fun v post => v = .bool (decide (l1 = l2)) ∧ post = src) := by
  refine Spec.enter ([src]) Tryd.func38 rfl Tryd.ntmps38 rfl (by first | rfl | simp) (fun w0 => ?_)
  refine CW.seq ?_
  refine CW.region ?_
  refine LW.assign rfl rfl ?_
  refine LW.nil ?_
  refine NW.then_ ?_
  refine CW.seq ?_
  refine CW.seq ?_
  refine CW.region ?_
  refine LW.move rfl rfl ?_
  refine LW.lenSlice rfl Tryd.underlying47 rfl ?_
  refine LW.move rfl rfl ?_
  refine LW.lenSlice rfl Tryd.underlying47 rfl ?_
  by_cases hl : l1.length = l2.length
  · refine LW.neq false rfl rfl (bne_eq_false_iff_eq.2 (by omega)) rfl ?_
    refine LW.nil ?_
    refine NW.then_ ?_
    refine CW.cond_false rfl ?_
    refine CW.skip ?_
    refine NW.then_ ?_
    refine CW.seq ?_
    refine CW.seq ?_
    refine CW.region ?_
    refine LW.move rfl rfl ?_
    refine LW.lenSlice rfl Tryd.underlying47 rfl ?_
    refine LW.move rfl rfl ?_
    refine LW.nil ?_
    refine NW.then_ ?_
    refine CW.block ?_
    refine CW.loop (fun k : Nat => [(13, .int .i64 (k : Int)), (12, .int .i64 (l1.length : Int)), (1, .slice A2 l2.length cp2), (0, .slice A1 l1.length cp1)]) (fun _ => [src]) (fun k => k ≤ l1.length ∧ ∀ i, i < k → l1.getD i 0 = l2.getD i 0) (fun k => l1.length - k) 0 ?st4_j ?st4_e ?st4_h ?st4_r
    case st4_j => exact ⟨Nat.zero_le _, fun i h => by omega⟩
    case st4_e => repeat (first | exact Env.Le.nil _ | refine Env.Le.cons rfl ?_)
    case st4_h => repeat (first | exact Sub.heap_nil _ | exact Sub.refl _ | refine Sub.heap_cons (Take.none _) ?_ | refine Sub.heap_cons (by repeat (first | exact Take.head _ _ | apply Take.tail)) ?_)
    case st4_r =>
      rintro k ⟨hk, heq⟩
      try dsimp only
      refine CW.seq ?_
      refine CW.region ?_
      refine LW.lss _ rfl rfl rfl rfl ?_
      refine LW.nil ?_
      refine NW.then_ ?_
      refine CW.seq ?_
      refine CW.cond rfl (fun hc14 => ?_) (fun hc14 => ?_)
      · replace hc14 := of_decide_eq_true hc14
        try dsimp only at hc14
        have hkn : k < l1.length := by omega
        obtain ⟨a1, rfl⟩ : ∃ a, A1 = some a := hs1.some (by rw [List.length_map]; omega)
        obtain ⟨a2, rfl⟩ : ∃ a, A2 = some a := hs2.some (by rw [List.length_map]; omega)
        have hg1 : (l1.map i64v)[k]? = some (.int .i64 (l1.getD k 0)) := by simp [List.getD, List.getElem?_eq_getElem hkn, i64v]
        have hg2 : (l2.map i64v)[k]? = some (.int .i64 (l2.getD k 0)) := by simp [List.getD, List.getElem?_eq_getElem (show k < l2.length by omega), i64v]
        refine CW.skip ?_
        refine NW.then_ ?_
        refine CW.seq ?_
        refine CW.block ?_
        refine CW.seq ?_
        refine CW.region ?_
        refine LW.move rfl rfl ?_
        refine LW.assign rfl rfl ?_
        refine LW.nil ?_
        refine NW.then_ ?_
        refine CW.seq ?_
        refine CW.quiet FactsHelp4.mixed (by kernel_rfl) ?_
        refine QW.step (Yl.move rfl) rfl ?_
        refine QW.step (Yl.move rfl) rfl ?_
        refine QW.step (Yl.indexAt rfl rfl Tryd.underlying47 FactsHelp4.ixs47 (by omega) (by omega)) rfl ?_
        refine QW.step (Yl.loadRd (v := .int .i64 (l1.getD k 0)) rfl (hs1.rd (by repeat (first | exact Take.head _ _ | apply Take.tail))) (by simpa using hg1) FactsHelp4.one2) rfl ?_
        refine QW.step (Yl.move rfl) rfl ?_
        refine QW.step (Yl.move rfl) rfl ?_
        refine QW.step (Yl.indexAt rfl rfl Tryd.underlying47 FactsHelp4.ixs47 (by omega) (by omega)) rfl ?_
        refine QW.step (Yl.loadRd (v := .int .i64 (l2.getD k 0)) rfl (hs2.rd (by repeat (first | exact Take.head _ _ | apply Take.tail))) (by simpa using hg2) FactsHelp4.one2) rfl ?_
        by_cases hek : l1.getD k 0 = l2.getD k 0
        · refine QW.step (Yl.neq false rfl rfl (bne_eq_false_iff_eq.2 (by omega))) rfl ?_
          refine QW.nil ?_
          refine NW.then_ ?_
          refine CW.cond_false rfl ?_
          refine CW.skip ?_
          refine NW.block ?_
          refine NW.then_ ?_
          refine CW.region ?_
          refine LW.add64 rfl rfl (by omega) (by omega) rfl ?_
          refine LW.move rfl rfl ?_
          refine LW.nil ?_
          refine NW.meet (k + 1) ?j1 ?e1 ?h1
          case j1 => exact ⟨⟨by omega, fun i hi => by
            rcases Nat.lt_or_ge i k with h | h
            · exact heq i h
            · obtain rfl : i = k := by omega
              exact hek⟩, by omega⟩
          case e1 => repeat (first | exact Env.Le.nil _ | refine Env.Le.cons rfl ?_)
          case h1 => repeat (first | exact Sub.heap_nil _ | exact Sub.refl _ | refine Sub.heap_cons (Take.none _) ?_ | refine Sub.heap_cons (by repeat (first | exact Take.head _ _ | apply Take.tail)) ?_)
        · refine QW.step (Yl.neq true rfl rfl (bne_iff_ne.2 (by omega))) rfl ?_
          refine QW.nil ?_
          refine NW.then_ ?_
          refine CW.cond_true rfl ?_
          refine CW.seq ?_
          have hne : l1 ≠ l2 := fun h => hek (by rw [h])
          refine CW.region ?_
          refine LW.assign rfl rfl ?_
          refine LW.nil ?_
          refine NW.then_ ?_
          refine CW.ret ?_
          refine NW.block_ret ?_
          refine NW.then_ret ?_
          refine NW.then_ret ?_
          refine NW.block_ret ?_
          refine NW.then_ret ?_
          refine NW.ret1 rfl rfl ⟨_, ⟨by rw [decide_eq_false hne], rfl⟩, ?_⟩
          exact Sub.one (by repeat (first | exact Take.head _ _ | apply Take.tail))
      · replace hc14 := of_decide_eq_false hc14
        try dsimp only at hc14
        have hall : l1 = l2 := by
          apply List.ext_getElem hl
          intro j h1 h2
          have := heq j (by omega)
          simpa [List.getD, List.getElem?_eq_getElem h1, List.getElem?_eq_getElem h2] using this
        refine CW.exit ?_
        refine NW.then_exit ?_
        refine NW.then_exit ?_
        refine NW.block_exit ?_
        refine NW.then_ ?_
        refine CW.seq ?_
        refine CW.region ?_
        refine LW.assign rfl rfl ?_
        refine LW.nil ?_
        refine NW.then_ ?_
        refine CW.ret ?_
        refine NW.ret1 rfl rfl ⟨_, ⟨by rw [decide_eq_true hall], rfl⟩, ?_⟩
        exact Sub.one (by repeat (first | exact Take.head _ _ | apply Take.tail))
  · refine LW.neq true rfl rfl (bne_iff_ne.2 (by omega)) rfl ?_
    refine LW.nil ?_
    refine NW.then_ ?_
    refine CW.cond_true rfl ?_
    refine CW.seq ?_
    have hne : l1 ≠ l2 := fun h => hl (by rw [h])
    refine CW.region ?_
    refine LW.assign rfl rfl ?_
    refine LW.nil ?_
    refine NW.then_ ?_
    refine CW.ret ?_
    refine NW.then_ret ?_
    refine NW.ret1 rfl rfl ⟨_, ⟨by rw [decide_eq_false hne], rfl⟩, ?_⟩
    exact Sub.one (by repeat (first | exact Take.head _ _ | apply Take.tail))
end
end Go.Proofs.YtpnhonhjheahhaaDoor

namespace Go.Proofs.YtpnhonhjheahhaaDoor
open Go.RowKit
namespace FactsBeg4
theorem fname22 : (Tryd.f22.name == "runtime.NumGoroutine") = false := by kernel_rfl
theorem fname23 : (Tryd.f23.name == "runtime.NumGoroutine") = false := by kernel_rfl
theorem fname25 : (Tryd.f25.name == "runtime.NumGoroutine") = false := by kernel_rfl
theorem fname28 : (Tryd.f28.name == "runtime.NumGoroutine") = false := by kernel_rfl
theorem fname29 : (Tryd.f29.name == "runtime.NumGoroutine") = false := by kernel_rfl
theorem fname32 : (Tryd.f32.name == "runtime.NumGoroutine") = false := by kernel_rfl
theorem fname33 : (Tryd.f33.name == "runtime.NumGoroutine") = false := by kernel_rfl
theorem fname34 : (Tryd.f34.name == "runtime.NumGoroutine") = false := by kernel_rfl
theorem fname35 : (Tryd.f35.name == "runtime.NumGoroutine") = false := by kernel_rfl
theorem fname37 : (Tryd.f37.name == "runtime.NumGoroutine") = false := by kernel_rfl
theorem fname42 : (Tryd.f42.name == "runtime.NumGoroutine") = false := by kernel_rfl
theorem fname57 : (Tryd.f57.name == "runtime.NumGoroutine") = false := by kernel_rfl
theorem info2 : (Tryd.prog.info? 2).map (fun i => (i.zero, i.size, i.bytes)) = some (some (.int .i64 0), 1, 8) := by kernel_rfl
theorem info5 : (Tryd.prog.info? 5).map (fun i => (i.zero, i.size, i.bytes)) = some (some (.int .u8 0), 1, 1) := by kernel_rfl
theorem ixs36 : (Tryd.prog.info? 31).map (·.size) = some 1 := by kernel_rfl
theorem ixs47 : (Tryd.prog.info? 2).map (·.size) = some 1 := by kernel_rfl
theorem one2 : oneB Tryd.prog 2 = true := by kernel_rfl
theorem one31 : oneB Tryd.prog 31 = true := by kernel_rfl
end FactsBeg4
section
variable (W : World) (B : Nat)
theorem law_Begun1 (h0 : 0 < B) (hg : W.cell? ⟨0, 0, none⟩ = some (rty 110)) : Spec Tryd.prog W B 42 [] [] (fun v post => v = .bool true ∧ post = []) := by
  refine Spec.enter ([]) Tryd.func42 rfl Tryd.ntmps42 rfl (by first | rfl | simp) (fun w0 => ?_)
  refine CW.seq ?_
  refine CW.region ?_
  refine LW.assign rfl rfl ?_
  refine LW.nil ?_
  refine NW.then_ ?_
  refine CW.seq ?_
  refine CW.region ?_
  refine LW.call (law_begun W B h0 hg) Tryd.func57 rfl FactsBeg4.fname57 trivial (Take.none _) rfl ?_
  rintro _ _ ⟨rfl, rfl⟩
  refine LW.assign rfl rfl ?_
  refine LW.nil ?_
  refine NW.then_ ?_
  refine CW.ret ?_
  refine NW.ret1 rfl rfl ⟨_, ⟨rfl, rfl⟩, ?_⟩
  exact Sub.nil _

/-- A set, on a device that is not fused. -/
theorem set_ok {n : Nat} {d : DevS} (hd : d.Ok n) (hu : Up d) (hf : Flat d) {s : Int} {ns ns' : List Int} (h : SlotAt d.N s ns) (hs : s ≤ 999999999) (h4 : ns'.length ≤ 4) (hn : ∀ n ∈ ns', I64 n) :
    (setS n d s ns').1 = 0 ∧ (setS n d s ns').2.Ok n ∧ Up (setS n d s ns').2 ∧ Flat (setS n d s ns').2 ∧ SlotAt (setS n d s ns').2.N (s + 1) ns' ∧ ∀ i, 2 ≤ i → (setS n d s ns').2.N i = d.N i := by
  have hu2 := set_up (ns := ns') hd hu h.1
  have hn0 := hd.n0
  rcases set_spec hd (hold_slot hf (by omega) h) (by omega) h4 hn with ⟨he, hs⟩ | ⟨he, _⟩
  · exact ⟨he, setS_ok hd _ _, hu2.2, hs.flat, hs.slot, hs.same⟩
  · rw [hu2.1] at he; cases he
/-- A record, on a device that is not fused. -/
theorem append_ok {n : Nat} {d : DevS} (hd : d.Ok n) (hu : Up d) (hf : Flat d) {g : LogS} (hg : g.Fine n) (h : LogAt d.N g) (hs : g.serial ≤ 999999999) {b : List UInt8} (hb : okRec b) (hfit : g.used + b.length + 2 ≤ ringN n) :
    (appendL n d g.log b).1 = 0 ∧ (appendL n d g.log b).2.1.Ok n ∧ Up (appendL n d g.log b).2.1 ∧ Flat (appendL n d g.log b).2.1 ∧ (appendL n d g.log b).2.2 = LogS.log ⟨g.serial + 1, g.area, g.length, g.recs ++ [b]⟩ ∧ LogAt (appendL n d g.log b).2.1.N ⟨g.serial + 1, g.area, g.length, g.recs ++ [b]⟩ ∧ LogS.Fine n ⟨g.serial + 1, g.area, g.length, g.recs ++ [b]⟩ := by
  have hu2 := appendL_up hd hu hg b hb hfit
  have hsp := appendL_spec hd hg hs (hold_log hf hd.n0 hg h) b
  obtain ⟨h1, h2, h3, _, _⟩ := appended hsp hu2.1
  exact ⟨hu2.1, appendL_dev hd _ _, hu2.2, h1, h2, h3, Fine.app hg hb hs hfit⟩
/-- Reset, on a device that is not fused. -/
theorem reset_ok {n : Nat} {d : DevS} (hd : d.Ok n) (hu : Up d) (hf : Flat d) {g : LogS} (hg : g.Fine n) (h : LogAt d.N g) (hs : g.serial ≤ 999999999) {a l : Int} (ha : I64 a) (hl : I64 l) :
    (resetL n d g.log a l).1 = 0 ∧ (resetL n d g.log a l).2.1.Ok n ∧ Up (resetL n d g.log a l).2.1 ∧ Flat (resetL n d g.log a l).2.1 ∧ (resetL n d g.log a l).2.2 = LogS.log ⟨g.serial + 1, a, l, []⟩ ∧ LogAt (resetL n d g.log a l).2.1.N ⟨g.serial + 1, a, l, []⟩ ∧ LogS.Fine n ⟨g.serial + 1, a, l, []⟩ := by
  have hu2 := resetL_up hd hu g.log (by have := hg.s1; show 0 ≤ g.serial; omega) a l
  obtain ⟨h1, _, h3⟩ := resetL_spec hd hg hs ha hl (hold_log hf hd.n0 hg h)
  rcases h3 with ⟨he, h4, h5, h6⟩ | ⟨he, _⟩
  · exact ⟨hu2.1, h1, hu2.2, h4, h5, h6, Fine.reset hg hs ha hl⟩
  · rw [hu2.1] at he; cases he
/-- A text, on a device that is not fused. -/
theorem put_ok {n : Nat} {d : DevS} (hd : d.Ok n) (hu : Up d) (hf : Flat d) {g : LogS} (hg : g.Fine n) (h : LogAt d.N g) (hs : g.serial ≤ 999999999) {t : List UInt8} (ht : t.length ≤ mostN n) :
    (putL n d g.log t).1 = 0 ∧ (putL n d g.log t).2.1.Ok n ∧ Up (putL n d g.log t).2.1 ∧ Flat (putL n d g.log t).2.1 ∧ (putL n d g.log t).2.2 = LogS.log ⟨g.serial + 1, putTo g.log, t.length, []⟩ ∧ LogAt (putL n d g.log t).2.1.N ⟨g.serial + 1, putTo g.log, t.length, []⟩ ∧ AreaIs (putL n d g.log t).2.1.N (beginN n (putTo g.log)) t ∧ LogS.Fine n ⟨g.serial + 1, putTo g.log, t.length, []⟩ := by
  have hu2 := putL_up hd hu hg t ht
  have hn1 := hd.n1
  have htm : t.length ≤ 1000000 := by unfold mostN at ht; omega
  have hsp := putL_spec hd hg hs (hold_log hf hd.n0 hg h) t htm
  have hto := putTo_two g.log
  rcases hsp.cases with ⟨he, _⟩ | ⟨_, _, h1, h2, h3, h4⟩ | ⟨he, _⟩
  · rw [hu2.1] at he; cases he
  · exact ⟨hu2.1, hsp.ok, hu2.2, h1, h2, h3, h4, Fine.reset hg hs ⟨by omega, by omega⟩ ⟨by omega, by omega⟩⟩
  · rw [hu2.1] at he; cases he
/-- What a crash of a device at rest leaves is what was there. -/
theorem crash_log {n : Nat} {d : DevS} (hd : d.Ok n) (hf : Flat d) {g : LogS} (hg : g.Fine n) (h : LogAt d.N g) (keep : List Bool) : LogAt (d.crash n keep).N g := (hold_log hf hd.n0 hg h).crash hd keep
theorem crash_slot {n : Nat} {d : DevS} (hd : d.Ok n) (hf : Flat d) {s : Int} {ns : List Int} (h : SlotAt d.N s ns) (keep : List Bool) : SlotAt (d.crash n keep).N s ns := (hold_slot hf (by have := hd.n0; omega) h).crash hd keep
theorem log_open {n : Nat} {d : DevS} (hd : d.Ok n) {g : LogS} (hg : g.Fine n) (h : LogAt d.N g) : openL n d.N = some g.view := h.open_ hg (fun _ hi => ok_len hd hi) hd.n0

/-! ### The contracts, on a device that is not fused -/
structure Rest (n : Nat) (d : DevS) : Prop where
  ok : d.Ok n
  up : Up d
  flat : Flat d
theorem Rest.crash {n : Nat} {d : DevS} (h : d.Ok n) (keep : List Bool) : Rest n (d.crash n keep) := ⟨h.crash keep, crash_up _ _ _, crash_flat _ _ _⟩
theorem Rest.zero {n : Nat} (h0 : 64 ≤ n) (h1 : n ≤ 4096) : Rest n (DevS.zero n) := ⟨DevS.Ok.zero h0 h1, zero_up n, zero_flat n⟩
theorem slot_Make_ok (p bn bw bl n : Nat) (s : DevS) (hs : s.Ok n) (hu : Up s) {sr : Int} {ns : List Int} (h : Hold n s (SlotAt · sr ns)) (h1 : sr ≤ 999999999) (ns' : List Int) (hns : ∀ n ∈ ns', I64 n) (h4 : ns'.length ≤ 4) (src : List Row) (A : Option Addr) (cp : Nat) (hsrc : Src W B src A (ns'.map i64v)) :
    Spec Tryd.prog W B 32 [.pointer (some ⟨p, 0, none⟩), .slice A ns'.length cp] (src ++ devC p bn bw bl n s)
      (fun v post => ∃ q d, v = .tuple #[.pointer (some ⟨q, 0, none⟩), .int .i64 0] ∧ Rest n d ∧ SlotAt d.N (sr + 1) ns' ∧ (∀ i, 2 ≤ i → d.N i = s.N i) ∧ post = src ++ ([slC q p (sr + 1) false] ++ devC p bn bw bl n d)) := by
  have hnw := (h s.N (Mix.self n s)).newest
  have hs0 := (h s.N (Mix.self n s)).1
  have hu2 := set_up (ns := ns') hs hu hs0
  have hok := setS_ok hs sr ns'
  refine (slot_Make W B p bn bw bl n s hs (by rw [hnw]; exact hs0) (by rw [hnw]; show sr ≤ _; omega) ns' hns h4 src A cp hsrc).mono ?_
  rw [hnw]
  rintro v post (⟨_, q, rfl, rfl⟩ | ⟨he, _⟩)
  · rcases set_spec hs h (by omega) h4 hns with ⟨_, hx⟩ | ⟨he, _⟩
    · exact ⟨q, _, rfl, ⟨hok, hu2.2, hx.flat⟩, hx.slot, hx.same, rfl⟩
    · rw [hu2.1] at he; cases he
  · exact absurd hu2.1 he
theorem slot_Set_ok (q p bn bw bl n : Nat) (s : DevS) (hs : s.Ok n) (hu : Up s) {sr : Int} {ns : List Int} (h : Hold n s (SlotAt · sr ns)) (h1 : sr ≤ 999999999) (ns' : List Int) (hns : ∀ n ∈ ns', I64 n) (h4 : ns'.length ≤ 4) (src : List Row) (A : Option Addr) (cp : Nat) (hsrc : Src W B src A (ns'.map i64v)) :
    Spec Tryd.prog W B 35 [.pointer (some ⟨q, 0, none⟩), .slice A ns'.length cp] (src ++ ([slC q p sr false] ++ devC p bn bw bl n s))
      (fun v post => v = .int .i64 0 ∧ ∃ d, Rest n d ∧ SlotAt d.N (sr + 1) ns' ∧ (∀ i, 2 ≤ i → d.N i = s.N i) ∧ post = src ++ ([slC q p (sr + 1) false] ++ devC p bn bw bl n d)) := by
  have hs0 := (h s.N (Mix.self n s)).1
  have hu2 := set_up (ns := ns') hs hu hs0
  have hok := setS_ok hs sr ns'
  refine (slot_Set W B q p bn bw bl n s hs sr hs0 (by omega) ns' hns h4 src A cp hsrc).mono ?_
  rintro v post ⟨rfl, rfl⟩
  rw [hu2.1]
  rcases set_spec hs h (by omega) h4 hns with ⟨_, hx⟩ | ⟨he, _⟩
  · exact ⟨rfl, _, ⟨hok, hu2.2, hx.flat⟩, hx.slot, hx.same, by simp⟩
  · rw [hu2.1] at he; cases he
theorem slot_Open_ok (p bn bw bl n : Nat) (s : DevS) (hs : s.Ok n) {sr : Int} {ns : List Int} (h : SlotAt s.N sr ns) (h1 : 1 ≤ sr) :
    Spec Tryd.prog W B 33 [.pointer (some ⟨p, 0, none⟩)] (devC p bn bw bl n s)
      (fun v post => ∃ q v2 ch, v = .tuple #[.pointer (some ⟨q, 0, none⟩), v2, .int .i64 0] ∧ OwnS 2 1 v2 ns.length (ns.map i64v) ch ∧ post = ch ++ ([slC q p sr false] ++ devC p bn bw bl n s)) := by
  refine (slot_Open W B p bn bw bl n s hs).mono ?_
  rw [h.newest]
  rintro v post (⟨he, _⟩ | ⟨_, hx⟩)
  · exact absurd he (by show sr ≠ 0; omega)
  · exact hx
theorem wal_Make_ok (p bn bw bl n : Nat) (s : DevS) (hs : s.Ok n) (hu : Up s) {sr : Int} {ns : List Int} (h : Hold n s (SlotAt · sr ns)) (h1 : sr ≤ 999999998) :
    Spec Tryd.prog W B 22 [.pointer (some ⟨p, 0, none⟩)] (devC p bn bw bl n s)
      (fun v post => ∃ l q d, v = .tuple #[.pointer (some ⟨l, 0, none⟩), .int .i64 0] ∧ Rest n d ∧ LogS.Fine n ⟨sr + 1, 0, 0, []⟩ ∧ LogAt d.N ⟨sr + 1, 0, 0, []⟩ ∧ (∀ i, 2 ≤ i → d.N i = s.N i) ∧ post = logC l q p (LogS.log ⟨sr + 1, 0, 0, []⟩) ++ devC p bn bw bl n d) := by
  have hnw := (h s.N (Mix.self n s)).newest
  have hs0 := (h s.N (Mix.self n s)).1
  have hu2 := set_up (ns := [0, 0, 0]) hs hu hs0
  have hok := setS_ok hs sr [0, 0, 0]
  refine (wal_Make W B p bn bw bl n s hs (by rw [hnw]; exact hs0) (by rw [hnw]; show sr ≤ _; omega)).mono ?_
  rw [hnw]
  rintro v post (⟨_, l, q, rfl, rfl⟩ | ⟨he, _⟩)
  · rcases set_spec hs h (by omega) (ns' := [0, 0, 0]) (by decide) (by intro x hx; simp at hx; subst hx; exact ⟨by decide, by decide⟩) with ⟨_, hx⟩ | ⟨he, _⟩
    · exact ⟨l, q, _, rfl, ⟨hok, hu2.2, hx.flat⟩, fine_new n hs0 (by omega) ⟨by decide, by decide⟩ ⟨by decide, by decide⟩, ⟨hx.slot, AreaIs.nil⟩, hx.same, rfl⟩
    · rw [hu2.1] at he; cases he
  · exact absurd hu2.1 he
theorem wal_Open_ok (p bn bw bl n : Nat) (s : DevS) (hs : s.Ok n) {g : LogS} (hg : g.Fine n) (h : LogAt s.N g) :
    Spec Tryd.prog W B 28 [.pointer (some ⟨p, 0, none⟩)] (devC p bn bw bl n s)
      (fun v post => ∃ l q v2 vs ch ar, v = .tuple #[.pointer (some ⟨l, 0, none⟩), v2, .int .i64 0] ∧ OwnS 31 1 v2 g.recs.length vs ch ∧ RecsAt W B ar vs g.recs ∧ post = ch ++ (ar ++ (logC l q p g.log ++ devC p bn bw bl n s))) := by
  refine (wal_Open W B p bn bw bl n s hs).mono ?_
  rw [log_open hs hg h]
  rintro v post (⟨he, _⟩ | ⟨o, l, q, v2, vs, ch, ar, he, rfl, h2, h3, rfl⟩)
  · cases he
  · cases he
    exact ⟨l, q, v2, vs, ch, ar, rfl, h2, h3, rfl⟩
theorem wal_Append_ok (l q p bn bw bl n : Nat) (s : DevS) (hr : Rest n s) {g : LogS} (hg : g.Fine n) (h : LogAt s.N g) (hs : g.serial ≤ 999999999) (b : List UInt8) (hb : okRec b) (hfit : g.used + b.length + 2 ≤ ringN n) (src : List Row) (A : Option Addr) (cp : Nat) (hsrc : Src W B src A (b.map u8v)) :
    Spec Tryd.prog W B 25 [.pointer (some ⟨l, 0, none⟩), .slice A b.length cp] (src ++ (logC l q p g.log ++ devC p bn bw bl n s))
      (fun v post => v = .int .i64 0 ∧ ∃ d, Rest n d ∧ LogS.Fine n ⟨g.serial + 1, g.area, g.length, g.recs ++ [b]⟩ ∧ LogAt d.N ⟨g.serial + 1, g.area, g.length, g.recs ++ [b]⟩ ∧ (∀ i, n / 2 ≤ i → d.N i = s.N i) ∧ post = src ++ (logC l q p (LogS.log ⟨g.serial + 1, g.area, g.length, g.recs ++ [b]⟩) ++ devC p bn bw bl n d)) := by
  obtain ⟨h1, h2, h3, h4, h5, h6, h7⟩ := append_ok hr.ok hr.up hr.flat hg h hs hb hfit
  have hsp := appendL_spec hr.ok hg hs (hold_log hr.flat hr.ok.n0 hg h) b
  refine (wal_Append W B l q p bn bw bl n s hr.ok g.log (hg.In hr.ok.n1) rfl rfl b src A cp (by have := hb.2; omega) hsrc).mono ?_
  rintro v post ⟨rfl, rfl⟩
  rw [h1, h5]
  exact ⟨rfl, _, ⟨h2, h3, h4⟩, h7, h6, fun i hi => (hsp.high i hi).1, rfl⟩
theorem wal_Append_no (l q p bn bw bl n : Nat) (s : DevS) (hr : Rest n s) {g : LogS} (hg : g.Fine n) (b : List UInt8) (hbn : b.length ≤ 1000000000) (e : Int) (he : (e = 1 ∧ ¬ okRec b) ∨ (e = 5 ∧ okRec b ∧ ringN n < g.used + b.length + 2)) (src : List Row) (A : Option Addr) (cp : Nat) (hsrc : Src W B src A (b.map u8v)) :
    Spec Tryd.prog W B 25 [.pointer (some ⟨l, 0, none⟩), .slice A b.length cp] (src ++ (logC l q p g.log ++ devC p bn bw bl n s))
      (fun v post => v = .int .i64 e ∧ post = src ++ (logC l q p g.log ++ devC p bn bw bl n s)) := by
  have hap : appendL n s g.log b = (e, s, g.log) := by
    unfold appendL
    rcases he with ⟨rfl, h⟩ | ⟨rfl, h, h2⟩
    · rw [if_pos (by unfold okRec at h; omega)]
    · rw [if_neg (by have := h.1; have := h.2; omega), if_pos (by have : g.log.used = g.used := rfl; omega)]
  refine (wal_Append W B l q p bn bw bl n s hr.ok g.log (hg.In hr.ok.n1) rfl rfl b src A cp hbn hsrc).mono ?_
  rw [hap]
  rintro v post ⟨rfl, rfl⟩
  exact ⟨rfl, rfl⟩
theorem wal_Reset_ok (l q p bn bw bl n : Nat) (s : DevS) (hr : Rest n s) {g : LogS} (hg : g.Fine n) (h : LogAt s.N g) (hs : g.serial ≤ 999999999) (a b : Int) (ha : I64 a) (hb : I64 b) :
    Spec Tryd.prog W B 27 [.pointer (some ⟨l, 0, none⟩), .int .i64 a, .int .i64 b] (logC l q p g.log ++ devC p bn bw bl n s)
      (fun v post => v = .int .i64 0 ∧ ∃ d, Rest n d ∧ LogS.Fine n ⟨g.serial + 1, a, b, []⟩ ∧ LogAt d.N ⟨g.serial + 1, a, b, []⟩ ∧ (∀ i, 2 ≤ i → d.N i = s.N i) ∧ post = logC l q p (LogS.log ⟨g.serial + 1, a, b, []⟩) ++ devC p bn bw bl n d) := by
  obtain ⟨h1, h2, h3, h4, h5, h6, h7⟩ := reset_ok hr.ok hr.up hr.flat hg h hs ha hb
  obtain ⟨_, h8, _⟩ := resetL_spec hr.ok hg hs ha hb (hold_log hr.flat hr.ok.n0 hg h)
  refine (wal_Reset W B l q p bn bw bl n s hr.ok g.log (hg.In hr.ok.n1) rfl rfl a b ha hb).mono ?_
  rintro v post ⟨rfl, rfl⟩
  rw [h1, h5]
  exact ⟨rfl, _, ⟨h2, h3, h4⟩, h7, h6, fun i hi => (h8 i hi).1, rfl⟩
theorem snap_Put_ok (l q p bn bw bl n : Nat) (s : DevS) (hr : Rest n s) {g : LogS} (hg : g.Fine n) (h : LogAt s.N g) (hs : g.serial ≤ 999999999) (t : List UInt8) (ht : t.length ≤ mostN n) (src : List Row) (A : Option Addr) (cp : Nat) (hsrc : Src W B src A (t.map u8v)) (hcp : t.length ≤ cp) :
    Spec Tryd.prog W B 37 [.pointer (some ⟨p, 0, none⟩), .pointer (some ⟨l, 0, none⟩), .slice A t.length cp] (src ++ (logC l q p g.log ++ devC p bn bw bl n s))
      (fun v post => v = .int .i64 0 ∧ ∃ d, Rest n d ∧ LogS.Fine n ⟨g.serial + 1, putTo g.log, t.length, []⟩ ∧ LogAt d.N ⟨g.serial + 1, putTo g.log, t.length, []⟩ ∧ AreaIs d.N (beginN n (putTo g.log)) t ∧ post = src ++ (logC l q p (LogS.log ⟨g.serial + 1, putTo g.log, t.length, []⟩) ++ devC p bn bw bl n d)) := by
  have hn1 := hr.ok.n1
  obtain ⟨h1, h2, h3, h4, h5, h6, h7, h8⟩ := put_ok hr.ok hr.up hr.flat hg h hs ht
  refine (snap_Put W B l q p bn bw bl n s hr.ok g.log (hg.In hn1) rfl rfl t (by unfold mostN at ht; omega) src A cp hsrc hcp).mono ?_
  rintro v post ⟨rfl, rfl⟩
  rw [h1, h5]
  exact ⟨rfl, _, ⟨h2, h3, h4⟩, h8, h6, h7, rfl⟩

theorem snap_Get_at (l q p bn bw bl n : Nat) (s : DevS) (hs : s.Ok n) (L : LogV) (e : Int) (t : List UInt8) (h : getL n s.N L = (e, t)) :
    Spec Tryd.prog W B 34 [.pointer (some ⟨p, 0, none⟩), .pointer (some ⟨l, 0, none⟩)] ([logR l q p L] ++ devC p bn bw bl n s)
      (fun v post => ∃ A cp ch, v = .tuple #[.slice A t.length cp, .int .i64 e] ∧ Src W B ch A (t.map u8v) ∧ (A = none → t.length = 0) ∧ t.length ≤ cp ∧ post = ch ++ ([logR l q p L] ++ devC p bn bw bl n s)) := by
  have := snap_Get W B l q p bn bw bl n s hs L
  rw [h] at this
  refine this.mono ?_
  rintro v post ⟨v2, ch, rfl, ⟨A, cp, rfl, h1, h2, h3⟩, rfl⟩
  exact ⟨A, cp, ch, rfl, h1, h2, h3, rfl⟩
set_option maxHeartbeats 4000000 in
theorem law_begun4 (h0 : 0 < B) (hg : W.cell? ⟨0, 0, none⟩ = some (rty 110)) : Spec Tryd.prog W B 21 [] [] (fun v post => v = .bool true ∧ post = []) := by
  have hr0 := Rest.zero (n := 256) (by decide) (by decide)
  have hs0 := zero_slot 256 (by decide)
  refine Spec.enter ([]) Tryd.func21 rfl Tryd.ntmps21 rfl (by first | rfl | simp) (fun w0 => ?_)
  refine CW.seq ?_
  refine CW.region ?_
  refine LW.assign rfl rfl ?_
  refine LW.nil ?_
  refine NW.then_ ?_
  refine CW.seq ?_
  refine CW.region ?_
  refine LW.call (dev_New W B 256 (by decide) (by decide)) Tryd.func23 rfl FactsBeg4.fname23 ⟨rfl, trivial⟩ (Take.none _) rfl ?_
  rintro _ _ ⟨p, bn, bw, bl, rfl, rfl⟩
  refine LW.assign rfl rfl ?_
  refine LW.nil ?_
  refine NW.then_ ?_
  refine CW.seq ?_
  refine CW.seq ?_
  refine CW.region ?_
  refine LW.move rfl rfl ?_
  refine LW.ptrNil _ rfl Tryd.underlying27 rfl rfl ?_
  refine LW.nil ?_
  refine NW.then_ ?_
  refine CW.cond_false rfl ?_
  refine CW.skip ?_
  refine NW.then_ ?_
  refine CW.seq ?_
  generalize DevS.zero 256 = d0 at hr0 hs0 ⊢
  refine CW.region ?_
  refine LW.move rfl rfl ?_
  refine LW.buildSlice (vs := [_, _]) ⟨rfl, rfl, trivial⟩ rfl (by intro v hv; simp at hv; rcases hv with rfl | rfl <;> rfl) Tryd.underlying47 FactsBeg4.info2 rfl (by decide) (by decide) rfl ?_
  intro bs22
  refine LW.call (slot_Make_ok W B p bn bw bl 256 d0 hr0.ok hr0.up (hold_slot hr0.flat (by decide) hs0) (by decide) [4, 5] (by intro n hn; simp at hn; rcases hn with rfl | rfl <;> exact ⟨by decide, by decide⟩) (by decide) [cr bs22 2 [.int .i64 4, .int .i64 5]] (some ⟨bs22, 0, none⟩) 2 (Src.row (fun j v hj => by rw [Nat.zero_add]; exact hj))) Tryd.func32 rfl FactsBeg4.fname32 ⟨rfl, rfl, trivial⟩ (Take.both (by repeat (first | exact Take.head _ _ | apply Take.tail)) (by repeat (first | exact Take.head _ _ | apply Take.tail))) rfl ?_
  rintro _ _ ⟨q, d1, rfl, hr1, hs1, _, rfl⟩; refine LW.split2 (LW.split2p ?_)
  refine LW.move rfl rfl ?_
  refine LW.extract rfl rfl rfl ?_
  refine LW.extract rfl rfl rfl ?_
  refine LW.assign rfl rfl ?_
  refine LW.assign rfl rfl ?_
  refine LW.nil ?_
  refine NW.then_ ?_
  refine CW.seq ?_
  refine CW.region ?_
  refine LW.move rfl rfl ?_
  refine LW.buildSlice (vs := [_]) ⟨rfl, trivial⟩ rfl (by intro v hv; simp at hv; subst hv; rfl) Tryd.underlying47 FactsBeg4.info2 rfl (by decide) (by decide) rfl ?_
  intro bs27
  refine LW.call (slot_Set_ok W B q p bn bw bl 256 d1 hr1.ok hr1.up (hold_slot hr1.flat (by decide) hs1) (by decide) [6] (by intro n hn; simp at hn; subst hn; exact ⟨by decide, by decide⟩) (by decide) [cr bs27 2 [.int .i64 6]] (some ⟨bs27, 0, none⟩) 1 (Src.row (fun j v hj => by rw [Nat.zero_add]; exact hj))) Tryd.func35 rfl FactsBeg4.fname35 ⟨rfl, rfl, trivial⟩ (Take.both (by repeat (first | exact Take.head _ _ | apply Take.tail)) (Take.both (by repeat (first | exact Take.head _ _ | apply Take.tail)) (by repeat (first | exact Take.head _ _ | apply Take.tail)))) rfl ?_
  rintro _ _ ⟨rfl, d2, hr2, hs2, _, rfl⟩; refine LW.split2 (LW.split2p ?_)
  refine LW.assign rfl rfl ?_
  refine LW.nil ?_
  refine NW.then_ ?_
  refine CW.seq ?_
  refine CW.region ?_
  refine LW.move rfl rfl ?_
  refine LW.call (dev_Crash W B p bn bw bl 256 d2 hr2.ok [] none 0 [] Src.nil) Tryd.func29 rfl FactsBeg4.fname29 ⟨rfl, rfl, trivial⟩ (Take.both (Take.none _) (by repeat (first | exact Take.head _ _ | apply Take.tail))) rfl ?_
  rintro _ _ ⟨cp, cn, cw, cl, rfl, rfl⟩; refine LW.split2 (LW.split2p ?_)
  refine LW.call (slot_Open_ok W B cp cn cw cl 256 (d2.crash 256 []) (hr2.ok.crash []) (crash_slot hr2.ok hr2.flat hs2 []) (by decide)) Tryd.func33 rfl FactsBeg4.fname33 ⟨rfl, trivial⟩ (by repeat (first | exact Take.head _ _ | apply Take.tail)) rfl ?_
  rintro _ _ ⟨q2, v2, ch2, rfl, ho2, rfl⟩; obtain ⟨A2, cp2, rfl, hA2, hc2⟩ := OwnS.val ho2; refine LW.split2 (LW.split2p ?_)
  refine LW.move rfl rfl ?_
  refine LW.extract rfl rfl rfl ?_
  refine LW.extract rfl rfl rfl ?_
  refine LW.extract rfl rfl rfl ?_
  refine LW.assign rfl rfl ?_
  refine LW.assign rfl rfl ?_
  refine LW.assign rfl rfl ?_
  refine LW.nil ?_
  refine NW.then_ ?_
  refine CW.seq ?_
  refine CW.region ?_
  refine LW.move rfl rfl ?_
  refine LW.call (wal_Make_ok W B p bn bw bl 256 d2 hr2.ok hr2.up (hold_slot hr2.flat (by decide) hs2) (by decide)) Tryd.func22 rfl FactsBeg4.fname22 ⟨rfl, trivial⟩ (by repeat (first | exact Take.head _ _ | apply Take.tail)) rfl ?_
  rintro _ _ ⟨l, q3, d3, rfl, hr3, hf3, hl3, _, rfl⟩; refine LW.split2 ?_
  refine LW.move rfl rfl ?_
  refine LW.extract rfl rfl rfl ?_
  refine LW.extract rfl rfl rfl ?_
  refine LW.assign rfl rfl ?_
  refine LW.assign rfl rfl ?_
  refine LW.nil ?_
  refine NW.then_ ?_
  refine CW.seq ?_
  refine CW.seq ?_
  refine CW.region ?_
  refine LW.move rfl rfl ?_
  refine LW.ptrNil _ rfl Tryd.underlying23 rfl rfl ?_
  refine LW.nil ?_
  refine NW.then_ ?_
  refine CW.cond_false rfl ?_
  refine CW.skip ?_
  refine NW.then_ ?_
  refine CW.seq ?_
  refine CW.region ?_
  refine LW.move rfl rfl ?_
  refine LW.buildSlice (vs := [_, _, _]) ⟨rfl, rfl, rfl, trivial⟩ rfl (by intro v hv; simp at hv; rcases hv with rfl | rfl | rfl <;> rfl) Tryd.underlying31 FactsBeg4.info5 rfl (by decide) (by decide) rfl ?_
  intro bs44
  refine LW.mark rfl Tryd.underlying31 Tryd.underlying5 (by repeat (first | exact Take.head _ _ | apply Take.tail)) rfl ?_
  refine LW.call (wal_Append_ok W B l q3 p bn bw bl 256 d3 hr3 hf3 hl3 (by decide) [111, 110, 101] ⟨by decide, by decide⟩ (by decide) [marked bs44 5 [.int .u8 111, .int .u8 110, .int .u8 101]] (some ⟨bs44, 0, none⟩) 3 Src.marked) Tryd.func25 rfl FactsBeg4.fname25 ⟨rfl, rfl, trivial⟩ (Take.both (by repeat (first | exact Take.head _ _ | apply Take.tail)) (Take.both (by repeat (first | exact Take.head _ _ | apply Take.tail)) (by repeat (first | exact Take.head _ _ | apply Take.tail)))) rfl ?_
  rintro _ _ ⟨rfl, d4, hr4, hf4, hl4, _, rfl⟩; refine LW.split2 (LW.split2p ?_)
  refine LW.assign rfl rfl ?_
  refine LW.nil ?_
  refine NW.then_ ?_
  refine CW.seq ?_
  refine CW.region ?_
  refine LW.move rfl rfl ?_
  refine LW.call (dev_Crash W B p bn bw bl 256 d4 hr4.ok [] none 0 [] Src.nil) Tryd.func29 rfl FactsBeg4.fname29 ⟨rfl, rfl, trivial⟩ (Take.both (Take.none _) (by repeat (first | exact Take.head _ _ | apply Take.tail))) rfl ?_
  rintro _ _ ⟨ep, en, ew, el, rfl, rfl⟩; refine LW.split2 (LW.split2p ?_)
  refine LW.call (wal_Open_ok W B ep en ew el 256 (d4.crash 256 []) (hr4.ok.crash []) hf4 (crash_log hr4.ok hr4.flat hf4 hl4 [])) Tryd.func28 rfl FactsBeg4.fname28 ⟨rfl, trivial⟩ (by repeat (first | exact Take.head _ _ | apply Take.tail)) rfl ?_
  rintro _ _ ⟨l5, q5, v5, vs5, ch5, ar5, rfl, ho5, hr5, rfl⟩; obtain ⟨A5, cp5, rfl, hA5, hc5⟩ := OwnS.val ho5; refine LW.split2 (LW.split2p ?_)
  refine LW.move rfl rfl ?_
  refine LW.extract rfl rfl rfl ?_
  refine LW.extract rfl rfl rfl ?_
  refine LW.extract rfl rfl rfl ?_
  refine LW.assign rfl rfl ?_
  refine LW.assign rfl rfl ?_
  refine LW.assign rfl rfl ?_
  refine LW.nil ?_
  refine NW.then_ ?_
  refine CW.seq ?_
  refine CW.region ?_
  refine LW.move rfl rfl ?_
  refine LW.move rfl rfl ?_
  refine LW.buildSlice (vs := [_, _, _]) ⟨rfl, rfl, rfl, trivial⟩ rfl (by intro v hv; simp at hv; rcases hv with rfl | rfl | rfl <;> rfl) Tryd.underlying31 FactsBeg4.info5 rfl (by decide) (by decide) rfl ?_
  intro bs56
  refine LW.mark rfl Tryd.underlying31 Tryd.underlying5 (by repeat (first | exact Take.head _ _ | apply Take.tail)) rfl ?_
  refine LW.call (snap_Put_ok W B l q3 p bn bw bl 256 d4 hr4 hf4 hl4 (by decide) [97, 108, 108] (by decide) [marked bs56 5 [.int .u8 97, .int .u8 108, .int .u8 108]] (some ⟨bs56, 0, none⟩) 3 Src.marked (by decide)) Tryd.func37 rfl FactsBeg4.fname37 ⟨rfl, rfl, rfl, trivial⟩ (Take.both (by repeat (first | exact Take.head _ _ | apply Take.tail)) (Take.both (by repeat (first | exact Take.head _ _ | apply Take.tail)) (by repeat (first | exact Take.head _ _ | apply Take.tail)))) rfl ?_
  rintro _ _ ⟨rfl, d6, hr6, hf6, hl6, ha6, rfl⟩; refine LW.split2 (LW.split2p (LW.split2p ?_))
  refine LW.assign rfl rfl ?_
  refine LW.nil ?_
  refine NW.then_ ?_
  refine CW.seq ?_
  refine CW.region ?_
  refine LW.move rfl rfl ?_
  refine LW.move rfl rfl ?_
  refine LW.call (snap_Get_at W B l q3 p bn bw bl 256 d6 hr6.ok _ 0 [97, 108, 108] (getL_area (a := 1) rfl (.inl rfl) rfl (by decide) (fun i hi => ok_len hr6.ok hi) ha6)) Tryd.func34 rfl FactsBeg4.fname34 ⟨rfl, rfl, trivial⟩ (Take.both (by repeat (first | exact Take.head _ _ | apply Take.tail)) (by repeat (first | exact Take.head _ _ | apply Take.tail))) rfl ?_
  rintro _ _ ⟨A7, cp7, ch7, rfl, hx7, _, _, rfl⟩; refine LW.split2 ?_
  refine LW.move rfl rfl ?_
  refine LW.extract rfl rfl rfl ?_
  refine LW.extract rfl rfl rfl ?_
  refine LW.assign rfl rfl ?_
  refine LW.assign rfl rfl ?_
  refine LW.nil ?_
  refine NW.then_ ?_
  refine CW.seq ?_
  refine CW.region ?_
  refine LW.call (law_Begun1 W B h0 hg) Tryd.func42 rfl FactsBeg4.fname42 trivial (Take.none _) rfl ?_
  rintro _ _ ⟨rfl, rfl⟩
  refine LW.move rfl rfl ?_
  refine LW.on 66 rfl rfl ?_
  refine LW.move rfl rfl ?_
  refine LW.on 66 rfl rfl ?_
  refine LW.eql true rfl rfl (beq_iff_eq.2 (by omega)) rfl ?_
  refine LW.pickT rfl rfl rfl ?_
  refine LW.move rfl rfl ?_
  refine LW.on 70 rfl rfl ?_
  refine LW.move rfl rfl ?_
  refine LW.on 70 rfl rfl ?_
  refine LW.eql true rfl rfl (beq_iff_eq.2 (by omega)) rfl ?_
  refine LW.pickT rfl rfl rfl ?_
  refine LW.move rfl rfl ?_
  refine LW.on 74 rfl rfl ?_
  refine LW.move rfl rfl ?_
  refine LW.on 74 rfl rfl ?_
  refine LW.eql true rfl rfl (beq_iff_eq.2 (by omega)) rfl ?_
  refine LW.pickT rfl rfl rfl ?_
  refine LW.move rfl rfl ?_
  refine LW.on 78 rfl rfl ?_
  refine LW.move rfl rfl ?_
  refine LW.on 78 rfl rfl ?_
  refine LW.lenSlice rfl Tryd.underlying47 rfl ?_
  refine LW.on 78 rfl rfl ?_
  refine LW.eql true rfl rfl (rfl) rfl ?_
  refine LW.pickT rfl rfl rfl ?_
  refine LW.move rfl rfl ?_
  refine LW.on 83 rfl rfl ?_
  refine LW.move rfl rfl ?_
  refine LW.on 83 rfl rfl ?_
  obtain ⟨ad2, rfl⟩ : ∃ a, A2 = some a := (OwnS.src (W := W) (B := B) ho2).some (by simp)
  refine LW.indexAt rfl rfl Tryd.underlying47 FactsBeg4.ixs47 (by decide) (by decide) rfl ?_
  refine LW.on 83 rfl rfl ?_
  refine LW.loadRd (v := .int .i64 6) rfl ((OwnS.src ho2).rd (by repeat (first | exact Take.head _ _ | apply Take.tail))) (rfl) FactsBeg4.one2 rfl ?_
  refine LW.on 83 rfl rfl ?_
  refine LW.eql true rfl rfl (beq_iff_eq.2 (by omega)) rfl ?_
  refine LW.pickT rfl rfl rfl ?_
  refine LW.move rfl rfl ?_
  refine LW.on 89 rfl rfl ?_
  refine LW.move rfl rfl ?_
  refine LW.on 89 rfl rfl ?_
  refine LW.eql true rfl rfl (beq_iff_eq.2 (by omega)) rfl ?_
  refine LW.pickT rfl rfl rfl ?_
  refine LW.move rfl rfl ?_
  refine LW.on 93 rfl rfl ?_
  refine LW.move rfl rfl ?_
  refine LW.on 93 rfl rfl ?_
  refine LW.eql true rfl rfl (beq_iff_eq.2 (by omega)) rfl ?_
  refine LW.pickT rfl rfl rfl ?_
  refine LW.move rfl rfl ?_
  refine LW.on 97 rfl rfl ?_
  refine LW.move rfl rfl ?_
  refine LW.on 97 rfl rfl ?_
  refine LW.eql true rfl rfl (beq_iff_eq.2 (by omega)) rfl ?_
  refine LW.pickT rfl rfl rfl ?_
  refine LW.move rfl rfl ?_
  refine LW.on 101 rfl rfl ?_
  refine LW.move rfl rfl ?_
  refine LW.on 101 rfl rfl ?_
  refine LW.lenSlice rfl Tryd.underlying36 rfl ?_
  refine LW.on 101 rfl rfl ?_
  refine LW.eql true rfl rfl (rfl) rfl ?_
  refine LW.pickT rfl rfl rfl ?_
  refine LW.move rfl rfl ?_
  refine LW.on 106 rfl rfl ?_
  refine LW.move rfl rfl ?_
  refine LW.on 106 rfl rfl ?_
  obtain ⟨Br, qr, hvr, hxr, _, _⟩ := hr5.2 0 (by decide)
  have hgr : vs5[0]? = some (.slice Br 3 qr) := by rw [show Value.slice Br 3 qr = vs5.getD 0 undef from hvr.symm]; simp [List.getD, List.getElem?_eq_getElem (show 0 < vs5.length by rw [hr5.1]; decide)]
  obtain ⟨ad5, rfl⟩ : ∃ a, A5 = some a := (OwnS.src (W := W) (B := B) ho5).some (by rw [hr5.1]; decide)
  refine LW.indexAt rfl rfl Tryd.underlying36 FactsBeg4.ixs36 (by decide) (by decide) rfl ?_
  refine LW.on 106 rfl rfl ?_
  refine LW.loadRd (v := .slice Br 3 qr) rfl ((OwnS.src ho5).rd (by repeat (first | exact Take.head _ _ | apply Take.tail))) (hgr) FactsBeg4.one31 rfl ?_
  refine LW.on 106 rfl rfl ?_
  refine LW.bytesStr ([111, 110, 101]) rfl Tryd.underlying31 Tryd.underlying5 Tryd.underlying9 (hxr.rd (by repeat (first | exact Take.head _ _ | apply Take.tail))) (rfl) rfl ?_
  refine LW.on 106 rfl rfl ?_
  refine LW.strEql (true) rfl rfl Tryd.underlying9 (decide_eq_true rfl) rfl ?_
  refine LW.pickT rfl rfl rfl ?_
  refine LW.move rfl rfl ?_
  refine LW.on 113 rfl rfl ?_
  refine LW.move rfl rfl ?_
  refine LW.on 113 rfl rfl ?_
  refine LW.eql true rfl rfl (beq_iff_eq.2 (by omega)) rfl ?_
  refine LW.pickT rfl rfl rfl ?_
  refine LW.move rfl rfl ?_
  refine LW.on 117 rfl rfl ?_
  refine LW.move rfl rfl ?_
  refine LW.on 117 rfl rfl ?_
  refine LW.eql true rfl rfl (beq_iff_eq.2 (by omega)) rfl ?_
  refine LW.pickT rfl rfl rfl ?_
  refine LW.move rfl rfl ?_
  refine LW.on 121 rfl rfl ?_
  refine LW.move rfl rfl ?_
  refine LW.on 121 rfl rfl ?_
  refine LW.bytesStr ([97, 108, 108]) rfl Tryd.underlying31 Tryd.underlying5 Tryd.underlying9 (hx7.rd (by repeat (first | exact Take.head _ _ | apply Take.tail))) (rfl) rfl ?_
  refine LW.on 121 rfl rfl ?_
  refine LW.strEql (true) rfl rfl Tryd.underlying9 (decide_eq_true rfl) rfl ?_
  refine LW.pickT rfl rfl rfl ?_
  refine LW.assign rfl rfl ?_
  refine LW.nil ?_
  refine NW.then_ ?_
  refine CW.ret ?_
  refine NW.ret1 rfl rfl ⟨_, ⟨rfl, rfl⟩, ?_⟩
  exact Sub.nil _
end
end Go.Proofs.YtpnhonhjheahhaaDoor

namespace Go.Proofs.YtpnhonhjheahhaaDoor
open Go.RowKit

section
variable {P : Program} {n : Nat} {c : Ctx} {Q : Exit → Act → World → Prop} {e : Env} {h : Heap} {ops : Array Oper} {rest : List Oper}
theorem LW.split3p {x y a b : List Row} (k : LW P n c ops Q rest e (x :: y :: a :: b :: h)) : LW P n c ops Q rest e (x :: y :: (a ++ b) :: h) := k.heap (Sub.of_perm (by simp))
theorem LW.split4p {x y z a b : List Row} (k : LW P n c ops Q rest e (x :: y :: z :: a :: b :: h)) : LW P n c ops Q rest e (x :: y :: z :: (a ++ b) :: h) := k.heap (Sub.of_perm (by simp))
end
theorem u8_conv (k : Nat) : IntKind.u8.wrap (k : Int) = ((UInt8.ofNat k).toNat : Int) := by
  rw [wrap_u8, UInt8.toNat_ofNat', UInt8.toNat_ofNat']
  omega
theorem tmod_nat (a b : Nat) : ((a : Int).tmod (b : Int)) = ((a % b : Nat) : Int) := by rw [Int.tmod_eq_emod_of_nonneg (by omega)]; rfl
theorem tdiv_nat (a b : Nat) : ((a : Int).tdiv (b : Int)) = ((a / b : Nat) : Int) := by rw [Int.tdiv_eq_ediv_of_nonneg (by omega)]; rfl
section
variable (W : World) (B : Nat)
theorem law_ints_eq (src : List Row) (A1 A2 : Option Addr) (cp1 cp2 m : Nat) (l : List Int) (hm : l.length = m) (hs1 : Src W B src A1 (l.map i64v)) (hs2 : Src W B src A2 (l.map i64v)) (hc1 : l.length ≤ 1000000000) :
    Spec Tryd.prog W B 38 [.slice A1 m cp1, .slice A2 m cp2] src (fun v post => v = .bool true ∧ post = src) := by
  subst hm
  refine (law_ints W B src A1 A2 cp1 cp2 l l hs1 hs2 hc1 hc1).mono ?_
  rintro _ _ ⟨rfl, rfl⟩
  exact ⟨by rw [decide_eq_true rfl], rfl⟩
theorem law_text' (n : Nat) (hn : n ≤ 1000000) (x : UInt8) : Spec Tryd.prog W B 26 [.int .i64 (n : Int), .int .u8 (x.toNat : Int)] [] (fun v post => ∃ b, v = .slice (some ⟨b, 0, none⟩) (textB n x).length (textB n x).length ∧ post = [cr b 5 ((textB n x).map u8v)]) := by
  have := law_text W B n hn x
  rw [textB_len]
  exact this
theorem OwnB.text (b : Nat) (bs : List UInt8) : OwnB (.slice (some ⟨b, 0, none⟩) bs.length bs.length) bs [cr b 5 (bs.map u8v)] := OwnS.row (by rw [List.length_map, Nat.mul_one])
theorem srcText (b : Nat) (bs : List UInt8) : Src W B [cr b 5 (bs.map u8v)] (some ⟨b, 0, none⟩) (bs.map u8v) := Src.row (fun j v hj => by rw [Nat.zero_add]; exact hj)
theorem used_app (s a l : Int) (r : List (List UInt8)) (b : List UInt8) : LogS.used ⟨s, a, l, r ++ [b]⟩ = LogS.used ⟨s, a, l, r⟩ + b.length + 2 := by
  unfold LogS.used
  dsimp only
  rw [recsB_app, List.length_append, show recsB [b] = recB b ++ recsB [] from recsB_cons b [], List.length_append, recB_len]
  simp [recsB]
  omega
theorem used_nil (s a l : Int) : LogS.used ⟨s, a, l, []⟩ = 0 := rfl
theorem areaIs_same {X Y : Nat → List UInt8} {i : Nat} {bs : List UInt8} (h : ∀ j, i ≤ j → Y j = X j) (k : AreaIs X i bs) : AreaIs Y i bs := k.congr (fun j _ => h _ (by omega))
theorem area_crash {n : Nat} {d : DevS} (hd : Rest n d) {i : Nat} {bs : List UInt8} (k : AreaIs d.N i bs) (hb : ∀ j, j < bs.length → i + j / 64 < n) (keep : List Bool) : AreaIs (d.crash n keep).N i bs := (hold_area hd.flat hb k).crash hd.ok keep
theorem putTo_next {g : LogS} {i s : Int} {r : List (List UInt8)} {k : Nat} (h : putTo g.log = 1 + k % 2) : putTo (LogS.log ⟨s, putTo g.log, i, r⟩) = 1 + (k + 1) % 2 := by
  rw [h]
  unfold putTo LogS.log
  dsimp only
  split <;> omega
theorem law_records_eq (src : List Row) (A1 A2 : Option Addr) (cp1 cp2 m1 m2 : Nat) (l : List (List UInt8)) (hm1 : l.length = m1) (hm2 : l.length = m2) (vs1 vs2 : List Value) (hs1 : Src W B src A1 vs1) (hr1 : RecsAt W B src vs1 l) (hs2 : Src W B src A2 vs2) (hr2 : RecsAt W B src vs2 l) (hc1 : l.length ≤ 1000000000) :
    Spec Tryd.prog W B 30 [.slice A1 m1 cp1, .slice A2 m2 cp2] src (fun v post => v = .bool true ∧ post = src) := by
  subst hm1; subst hm2
  refine (law_records W B src A1 A2 cp1 cp2 l l vs1 vs2 hs1 hr1 hs2 hr2 hc1 hc1).mono ?_
  rintro _ _ ⟨rfl, rfl⟩
  exact ⟨by rw [decide_eq_true rfl], rfl⟩
theorem Src.left {r r' : List Row} {A : Option Addr} {xs : List Value} (k : Src W B r A xs) : Src W B (r ++ r') A xs := k.more fun _ h => List.mem_append_left _ h
theorem Src.right {r r' : List Row} {A : Option Addr} {xs : List Value} (k : Src W B r A xs) : Src W B (r' ++ r) A xs := k.more fun _ h => List.mem_append_right _ h
end
end Go.Proofs.YtpnhonhjheahhaaDoor
