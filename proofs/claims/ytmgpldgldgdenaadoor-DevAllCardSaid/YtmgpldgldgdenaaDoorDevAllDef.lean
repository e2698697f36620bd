/-
  'sectors': some of a device as the document's; which are loose: its contract; the law's operations as they lie in memory.
-/
import Derived.Test.YtmgpldgldgdenaaDoorRDev5
import Derived.Test.YtmgpldgldgdenaaDoorOps4
namespace Go.Proofs.YtmgpldgldgdenaaDoor
open Go.RowKit
namespace FactsDevAllDef
theorem fa71_0 (b o : Nat) (w : World) : (Instr.fieldAt 71 (.pointer (some ⟨b, o, none⟩)) 0).run Tryd.prog w = .ok (.pointer (some ⟨b, o, none⟩)) w := by kernel_rfl
theorem fname20 : (Tryd.f20.name == "runtime.NumGoroutine") = false := by kernel_rfl
theorem fname22 : (Tryd.f22.name == "runtime.NumGoroutine") = false := by kernel_rfl
theorem fname55 : (Tryd.f55.name == "runtime.NumGoroutine") = false := by kernel_rfl
theorem info3 : (Tryd.prog.info? 3).map (fun i => (i.zero, i.size, i.bytes)) = some (some (.int .i64 0), 1, 8) := by kernel_rfl
theorem ixs33 : (Tryd.prog.info? 3).map (·.size) = some 1 := by kernel_rfl
theorem ixs51 : (Tryd.prog.info? 26).map (·.size) = some 1 := by kernel_rfl
theorem mixed : Tryd.prog.follows .mixedOrders = true := by kernel_rfl
theorem one26 : oneB Tryd.prog 26 = true := by kernel_rfl
theorem one3 : oneB Tryd.prog 3 = true := by kernel_rfl
theorem one51 : oneB Tryd.prog 51 = true := by kernel_rfl
end FactsDevAllDef
structure OpS where
  kind : Int
  i : Int
  x : UInt8
  A : Option Addr
  cp : Nat
  keep : List Bool
def opV (o : OpS) : List Value := [.int .i64 o.kind, .int .i64 o.i, u8v o.x, .slice o.A o.keep.length o.cp]
theorem opV_one (o : OpS) : ∀ v ∈ opV o, v.oneCell' = true := by
  intro v hv
  simp [opV, u8v] at hv
  rcases hv with rfl | rfl | rfl | rfl <;> rfl
def OpsAt (W : World) (B : Nat) (A : Option Addr) (os : List OpS) : Prop := os = [] ∨ ∃ a, A = some a ∧ a.block < B ∧ ∀ j o, os[j]? = some o → (∀ q v, (opV o)[q]? = some v → W.cell? ((a.add (j * 4)).add q) = some v) ∧ Src W B [] o.A (o.keep.map .bool) ∧ I64 o.i
section
variable (W : World) (B : Nat)
set_option maxHeartbeats 1000000 in
theorem law_sectors (p bn bw bl n : Nat) (s t : DevS) (r : RD) (hs : s.Ok n) (hr : r.Ok W B n t) (hst : Same s t) (is : List Int) (A : Option Addr) (cp : Nat) (his : is.length ≤ 10) (src : List Row) (hsrc : Src W B src A (is.map i64v)) (hA : A = none → is.length = 0) :
    Spec Tryd.prog W B 43 [.pointer (some ⟨p, 0, none⟩), .pointer (some ⟨r.q, 0, none⟩), .slice A is.length cp] (src ++ (devC p bn bw bl n s ++ r.rows n t)) (fun v post => v = .bool true ∧ post = src ++ (devC p bn bw bl n s ++ r.rows n t)) := by
  have hn0 := hr.ok.n0
  have hn1 := hr.ok.n1
  have hL := hst.looseTo n
  have hll := looseTo_len s n
  have hlt : ∀ x ∈ looseTo s n, x < n := fun x hx => looseTo_lt hx
  rcases hr.ownN with ⟨_, h, _⟩ | ⟨bN, capN, slN, hvN, hlN, hcN, hslN, hchN⟩
  · omega
  refine Spec.enter (src :: devC p bn bw bl n s :: [cr r.q 71 (rdHead r n t)] :: r.chN :: r.chS :: [cr r.bl 4 (t.loose.map .bool)] :: r.ar :: []) Tryd.func43 rfl Tryd.ntmps43 rfl (by first | rfl | simp [RD.rows, rdHead]) (fun w0 => ?_)
  refine CW.seq ?_
  refine CW.region ?_
  refine LW.assign rfl rfl ?_
  refine LW.nil ?_
  refine NW.then_ ?_
  refine CW.seq ?_
  refine CW.region ?_
  refine LW.move rfl rfl ?_
  refine LW.call (dev_Loose W B p bn bw bl n s hs) Tryd.func22 rfl FactsDevAllDef.fname22 ⟨rfl, trivial⟩ (by repeat (first | exact Take.head _ _ | apply Take.tail)) rfl ?_
  rintro v _ ⟨ch, ho, rfl⟩; obtain ⟨A2, cp2, rfl, hA2, hc2⟩ := ho.val; refine LW.split2 ?_
  refine LW.move rfl rfl ?_
  refine LW.call (rdev_LooseList W B r n t hr.ok) Tryd.func55 rfl FactsDevAllDef.fname55 ⟨rfl, trivial⟩ ((Take.rd (by repeat (first | exact Take.head _ _ | apply Take.tail)) (by repeat (first | exact Take.head _ _ | apply Take.tail)) (by repeat (first | exact Take.head _ _ | apply Take.tail)) (by repeat (first | exact Take.head _ _ | apply Take.tail)) (by repeat (first | exact Take.head _ _ | apply Take.tail)))) rfl ?_
  rw [← hL]; rintro v _ ⟨ch3, ho3, rfl⟩; obtain ⟨A3, cp3, rfl, hA3, hc3⟩ := ho3.val; refine LW.split2 (LW.openRp ?_)
  refine LW.assign rfl rfl ?_
  refine LW.assign rfl rfl ?_
  refine LW.nil ?_
  refine NW.then_ ?_
  refine CW.seq ?_
  refine CW.seq ?_
  refine CW.region ?_
  refine LW.move rfl rfl ?_
  refine LW.lenSlice rfl Tryd.underlying33 rfl ?_
  refine LW.move rfl rfl ?_
  refine LW.lenSlice rfl Tryd.underlying33 rfl ?_
  refine LW.neq false rfl rfl (bne_eq_false_iff_eq.2 rfl) rfl ?_
  refine LW.nil ?_
  refine NW.then_ ?_
  refine CW.cond_false rfl ?_
  refine CW.skip ?_
  refine NW.then_ ?_
  refine CW.seq ?_
  refine CW.seq ?_
  generalize looseTo s n = L at hll hlt ho ho3 hA2 hA3 hc2 hc3 ⊢
  refine CW.region ?_
  refine LW.move rfl rfl ?_
  refine LW.lenSlice rfl Tryd.underlying33 rfl ?_
  refine LW.move rfl rfl ?_
  refine LW.nil ?_
  refine NW.then_ ?_
  refine CW.block ?_
  refine CW.loop (fun k : Nat => [(25, .int .i64 (k : Int)), (24, .int .i64 (L.length : Int)), (8, .slice A3 L.length cp3), (7, .slice A2 L.length cp2), (2, .slice A is.length cp), (1, .pointer (some ⟨r.q, 0, none⟩)), (0, .pointer (some ⟨p, 0, none⟩))]) (fun _ => ch :: ch3 :: src :: devC p bn bw bl n s :: [cr r.q 71 (rdHead r n t)] :: r.chN :: r.chS :: [cr r.bl 4 (t.loose.map .bool)] :: r.ar :: []) (fun k => k ≤ L.length) (fun k => L.length - k) 0 ?st5_j ?st5_e ?st5_h ?st5_r
  case st5_j => exact Nat.zero_le _
  case st5_e => repeat (first | exact Env.Le.nil _ | refine Env.Le.cons rfl ?_)
  case st5_h => repeat (first | exact Sub.heap_nil _ | exact Sub.refl _ | refine Sub.heap_cons (by repeat (first | exact Take.head _ _ | apply Take.tail)) ?_)
  case st5_r =>
    intro k hk
    try dsimp only
    refine CW.seq ?_
    refine CW.region ?_
    refine LW.lss _ rfl rfl rfl rfl ?_
    refine LW.nil ?_
    refine NW.then_ ?_
    refine CW.seq ?_
    refine CW.cond rfl (fun hc26 => ?_) (fun hc26 => ?_)
    · replace hc26 := of_decide_eq_true hc26
      try dsimp only at hc26
      have hkn : k < L.length := by omega
      obtain ⟨a2, rfl⟩ : ∃ a, A2 = some a := by
        cases A2 with
        | none => have := hA2 rfl; omega
        | some a => exact ⟨a, rfl⟩
      obtain ⟨a3, rfl⟩ : ∃ a, A3 = some a := by
        cases A3 with
        | none => have := hA3 rfl; omega
        | some a => exact ⟨a, rfl⟩
      have hgL : (L.map intV)[k]? = some (intV (L.getD k 0)) := by simp [List.getD, List.getElem?_eq_getElem hkn]
      generalize L.getD k 0 = lk at hgL
      refine CW.skip ?_
      refine NW.then_ ?_
      refine CW.seq ?_
      refine CW.block ?_
      refine CW.seq ?_
      refine CW.region ?_
      refine LW.move rfl rfl ?_
      refine LW.assign rfl rfl ?_
      refine LW.nil ?_
      refine NW.then_ ?_
      refine CW.seq ?_
      refine CW.drawH [] FactsDevAllDef.mixed ?_
      refine AW.takes [0, 1, 2, 4, 5, 6] 3 (by kernel_rfl) (by kernel_rfl) rfl (by repeat (first | exact PO.body | refine PO.then_ ?_ | refine PO.block ?_ | refine PO.noGoto ?_)) (fun _ s => Held.of s (by repeat (first | exact Sub.nil _ | refine Sub.cons1 (by repeat (first | exact Take.head _ _ | apply Take.tail)) ?_))) ?_
      refine TW.take rfl (Yl.move rfl) rfl ?_
      refine TW.take rfl (Yl.move rfl) rfl ?_
      refine TW.take rfl (Yl.indexAt rfl rfl Tryd.underlying33 FactsDevAllDef.ixs33 (by omega) (by omega)) rfl ?_
      refine TW.take rfl (Yl.move rfl) rfl ?_
      refine TW.take rfl (Yl.move rfl) rfl ?_
      refine TW.take rfl (Yl.indexAt rfl rfl Tryd.underlying33 FactsDevAllDef.ixs33 (by omega) (by omega)) rfl ?_
      refine TW.nil ?_
      refine AW.all [3, 7] (by kernel_rfl) rfl ?_
      refine AWs.cons rfl ?_ ?_
      · refine LW.loadRd (v := .int .i64 (lk : Int)) rfl (ho.src.rd (by repeat (first | exact Take.head _ _ | apply Take.tail))) (by simpa [intV] using hgL) FactsDevAllDef.one3 rfl ?_
        refine LW.nil ?_
        refine AW.back (fun _ s => Held.of s (by repeat (first | exact Sub.nil _ | refine Sub.cons1 (by repeat (first | exact Take.head _ _ | apply Take.tail)) ?_))) ?_
        refine AW.act 7 (by kernel_rfl) rfl ?_
        refine LW.loadRd (v := .int .i64 (lk : Int)) rfl (ho3.src.rd (by repeat (first | exact Take.head _ _ | apply Take.tail))) (by simpa [intV] using hgL) FactsDevAllDef.one3 rfl ?_
        refine LW.nil ?_
        refine AW.back (fun _ s => Held.of s (by repeat (first | exact Sub.nil _ | refine Sub.cons1 (by repeat (first | exact Take.head _ _ | apply Take.tail)) ?_))) ?_
        refine AW.takes [8] 0 (by kernel_rfl) (by kernel_rfl) rfl (by repeat (first | exact PO.body | refine PO.then_ ?_ | refine PO.block ?_ | refine PO.noGoto ?_)) (fun _ s => Held.of s (by repeat (first | exact Sub.nil _ | refine Sub.cons1 (by repeat (first | exact Take.head _ _ | apply Take.tail)) ?_))) ?_
        refine TW.take rfl (Yl.neq false rfl rfl (bne_eq_false_iff_eq.2 rfl)) rfl ?_
        refine TW.nil ?_
        refine AW.done (by kernel_rfl) ?_
        refine NW.then_ ?_
        refine CW.cond_false rfl ?_
        refine CW.skip ?_
        refine NW.block ?_
        refine NW.then_ ?_
        refine CW.region ?_
        refine LW.add64 rfl rfl (by omega) (by omega) rfl ?_
        refine LW.move rfl rfl ?_
        refine LW.nil ?_
        refine NW.meet (k + 1) ?j1 ?e1 ?h1
        case j1 => exact ⟨by omega, by omega⟩
        case e1 => repeat (first | exact Env.Le.nil _ | refine Env.Le.cons rfl ?_)
        case h1 => repeat (first | exact Sub.heap_nil _ | exact Sub.refl _ | refine Sub.heap_cons (by repeat (first | exact Take.head _ _ | apply Take.tail)) ?_)
      refine AWs.cons rfl ?_ ?_
      · refine LW.loadRd (v := .int .i64 (lk : Int)) rfl (ho3.src.rd (by repeat (first | exact Take.head _ _ | apply Take.tail))) (by simpa [intV] using hgL) FactsDevAllDef.one3 rfl ?_
        refine LW.nil ?_
        refine AW.back (fun _ s => Held.of s (by repeat (first | exact Sub.nil _ | refine Sub.cons1 (by repeat (first | exact Take.head _ _ | apply Take.tail)) ?_))) ?_
        refine AW.act 3 (by kernel_rfl) rfl ?_
        refine LW.loadRd (v := .int .i64 (lk : Int)) rfl (ho.src.rd (by repeat (first | exact Take.head _ _ | apply Take.tail))) (by simpa [intV] using hgL) FactsDevAllDef.one3 rfl ?_
        refine LW.nil ?_
        refine AW.back (fun _ s => Held.of s (by repeat (first | exact Sub.nil _ | refine Sub.cons1 (by repeat (first | exact Take.head _ _ | apply Take.tail)) ?_))) ?_
        refine AW.takes [8] 0 (by kernel_rfl) (by kernel_rfl) rfl (by repeat (first | exact PO.body | refine PO.then_ ?_ | refine PO.block ?_ | refine PO.noGoto ?_)) (fun _ s => Held.of s (by repeat (first | exact Sub.nil _ | refine Sub.cons1 (by repeat (first | exact Take.head _ _ | apply Take.tail)) ?_))) ?_
        refine TW.take rfl (Yl.neq false rfl rfl (bne_eq_false_iff_eq.2 rfl)) rfl ?_
        refine TW.nil ?_
        refine AW.done (by kernel_rfl) ?_
        refine NW.then_ ?_
        refine CW.cond_false rfl ?_
        refine CW.skip ?_
        refine NW.block ?_
        refine NW.then_ ?_
        refine CW.region ?_
        refine LW.add64 rfl rfl (by omega) (by omega) rfl ?_
        refine LW.move rfl rfl ?_
        refine LW.nil ?_
        refine NW.meet (k + 1) ?j2 ?e2 ?h2
        case j2 => exact ⟨by omega, by omega⟩
        case e2 => repeat (first | exact Env.Le.nil _ | refine Env.Le.cons rfl ?_)
        case h2 => repeat (first | exact Sub.heap_nil _ | exact Sub.refl _ | refine Sub.heap_cons (by repeat (first | exact Take.head _ _ | apply Take.tail)) ?_)
      exact AWs.nil
    · replace hc26 := of_decide_eq_false hc26
      try dsimp only at hc26
      refine CW.exit ?_
      refine NW.then_exit ?_
      refine NW.then_exit ?_
      refine NW.block_exit ?_
      refine NW.then_ ?_
      refine CW.seq ?_
      refine CW.seq ?_
      refine CW.region ?_
      refine LW.move rfl rfl ?_
      refine LW.append (is.map i64v) rfl rfl Tryd.underlying33 Tryd.underlying33 (.inr ⟨_, rfl⟩) FactsDevAllDef.info3 rfl (OwnS.nil) (Take.none _) (fun _ => lenOf_slice _ _ _ _) (first_rd (hsrc.rd (by repeat (first | exact Take.head _ _ | apply Take.tail))) (by simp) hA) (by simp) (by intro u hu; obtain ⟨z, _, rfl⟩ := List.mem_map.1 hu; rfl) (by omega) (by omega) rfl ?_
      intro v4 ch4 ho4
      refine LW.move rfl rfl ?_
      refine LW.append (L.map intV) rfl rfl Tryd.underlying33 Tryd.underlying33 (.inr ⟨_, rfl⟩) FactsDevAllDef.info3 rfl (ho4) (by repeat (first | exact Take.head _ _ | apply Take.tail)) (fun _ => lenOf_slice _ _ _ _) (first_rd ((OwnS.src (W := W) (B := B) ho).rd (by repeat (first | exact Take.head _ _ | apply Take.tail))) (by simp) hA2) (by simp) (by intro u hu; obtain ⟨z, _, rfl⟩ := List.mem_map.1 hu; rfl) (by omega) (by omega) rfl ?_
      intro v5 ch5 ho5; obtain ⟨A5, cp5, rfl, hA5, hc5⟩ := ho5.val; rw [hchN]
      refine LW.lenSlice rfl Tryd.underlying33 rfl ?_
      refine LW.move rfl rfl ?_
      refine LW.nil ?_
      refine NW.then_ ?_
      refine CW.block ?_
      refine CW.loop (fun k : Nat => [(43, .int .i64 (k : Int)), (42, .int .i64 ((0 + is.length + L.length : Nat) : Int)), (41, .slice A5 (0 + is.length + L.length) cp5), (1, .pointer (some ⟨r.q, 0, none⟩)), (0, .pointer (some ⟨p, 0, none⟩))]) (fun _ => [ch5, src, devC p bn bw bl n s, [cr r.q 71 (rdHead r n t)], [cr bN 26 (r.nv ++ slN)], r.chS, [cr r.bl 4 (t.loose.map .bool)], r.ar]) (fun k => k ≤ is.length + L.length) (fun k => is.length + L.length - k) 0 ?st11_j ?st11_e ?st11_h ?st11_r
      case st11_j => exact Nat.zero_le _
      case st11_e => repeat (first | exact Env.Le.nil _ | refine Env.Le.cons rfl ?_)
      case st11_h => repeat (first | exact Sub.heap_nil _ | exact Sub.refl _ | refine Sub.heap_cons (by repeat (first | exact Take.head _ _ | apply Take.tail)) ?_)
      case st11_r =>
        intro k hk
        try dsimp only
        refine CW.seq ?_
        refine CW.region ?_
        refine LW.lss _ rfl rfl rfl rfl ?_
        refine LW.nil ?_
        refine NW.then_ ?_
        refine CW.seq ?_
        refine CW.cond rfl (fun hc44 => ?_) (fun hc44 => ?_)
        · replace hc44 := of_decide_eq_true hc44
          try dsimp only at hc44
          have hkn : k < is.length + L.length := by omega
          obtain ⟨a5, rfl⟩ : ∃ a, A5 = some a := by
            cases A5 with
            | none => have := hA5 rfl; omega
            | some a => exact ⟨a, rfl⟩
          obtain ⟨x, hgx⟩ : ∃ x : Int, ([] ++ is.map i64v ++ L.map intV)[k]? = some (.int .i64 x) := by
            rw [List.nil_append]
            rcases Nat.lt_or_ge k is.length with h | h
            · rw [List.getElem?_append_left (by simpa using h)]
              exact ⟨is.getD k 0, by simp [List.getD, List.getElem?_eq_getElem h, i64v]⟩
            · rw [List.getElem?_append_right (by simpa using h)]
              have h2 : k - is.length < L.length := by omega
              exact ⟨(L.getD (k - is.length) 0 : Nat), by simp [List.getD, List.getElem?_eq_getElem h2, intV]⟩
          refine CW.skip ?_
          refine NW.then_ ?_
          refine CW.seq ?_
          refine CW.block ?_
          refine CW.seq ?_
          refine CW.region ?_
          refine LW.indexAt rfl rfl Tryd.underlying33 FactsDevAllDef.ixs33 (by omega) (by omega) rfl ?_
          refine LW.loadRd (v := .int .i64 x) rfl (ho5.src.rd (by repeat (first | exact Take.head _ _ | apply Take.tail))) (by simpa using hgx) FactsDevAllDef.one3 rfl ?_
          refine LW.assign rfl rfl ?_
          refine LW.nil ?_
          refine NW.then_ ?_
          refine CW.seq ?_
          skip
          refine CW.region ?_
          by_cases hin : isB n x = true
          · refine LW.move rfl rfl ?_
            obtain ⟨hx0, hx1⟩ : 0 ≤ x ∧ x < (n : Int) := by simpa [isB] using hin
            obtain ⟨i, rfl⟩ : ∃ i : Nat, x = (i : Int) := ⟨x.toNat, by omega⟩
            have hin2 : i < n := by omega
            obtain ⟨ai, cpi, hvi, hsa⟩ := (hr.secN.2 i hin2).some
            have hxl : (s.now.getD i []).length = 64 := hs.now.get (hs.now.getD hin2)
            rw [← hst.now] at hsa
            refine LW.move rfl rfl ?_
            refine LW.call (dev_Read W B p bn bw bl n s hs i hin2) Tryd.func20 rfl FactsDevAllDef.fname20 ⟨rfl, rfl, trivial⟩ (by repeat (first | exact Take.head _ _ | apply Take.tail)) rfl ?_
            rintro _ _ ⟨q1, rfl, rfl⟩; refine LW.split1 ?_
            refine LW.move rfl rfl ?_
            refine LW.extract rfl rfl rfl ?_
            refine LW.extract rfl rfl rfl ?_
            refine LW.assign rfl rfl ?_
            refine LW.assign rfl rfl ?_
            refine LW.nil ?_
            refine NW.then_ ?_
            refine CW.seq ?_
            refine CW.seq ?_
            refine CW.region ?_
            refine LW.move rfl rfl ?_
            refine LW.lss false rfl rfl (decide_eq_false (by omega)) rfl ?_
            refine LW.move rfl rfl ?_
            refine LW.on 55 rfl rfl ?_
            refine LW.move rfl rfl ?_
            refine LW.on 55 rfl rfl ?_
            refine LW.move rfl rfl ?_
            refine LW.on 55 rfl rfl ?_
            refine LW.nilPtr rfl rfl ?_
            refine LW.on 55 rfl rfl ?_
            refine LW.fieldAddr _ rfl (fun _ => FactsDevAllDef.fa71_0 _ _ _) rfl ?_
            refine LW.on 55 rfl rfl ?_
            refine LW.load (v := .slice (some ⟨bN, 0, none⟩) n capN) rfl (by repeat (first | exact Take.head _ _ | apply Take.tail)) ((by rw [← hvN]; rfl)) FactsDevAllDef.one51 rfl ?_
            refine LW.on 55 rfl rfl ?_
            refine LW.lenSlice rfl Tryd.underlying51 rfl ?_
            refine LW.on 55 rfl rfl ?_
            refine LW.geq false rfl rfl (decide_eq_false (by omega)) rfl ?_
            refine LW.pickF rfl rfl rfl ?_
            refine LW.nil ?_
            refine NW.then_ ?_
            refine CW.cond_false rfl ?_
            refine CW.skip ?_
            refine NW.then_ ?_
            refine CW.seq ?_
            refine CW.drawH [cr q1 92 ((s.now.getD i []).map u8v), cr r.q 71 (rdHead r n t), cr bN 26 (r.nv ++ slN)] FactsDevAllDef.mixed ?_
            refine AW.takes [0, 1, 2, 3, 4, 5, 6, 7, 8, 9, 10, 11] 3 (by kernel_rfl) (by kernel_rfl) rfl (by repeat (first | exact PO.body | refine PO.then_ ?_ | refine PO.block ?_ | refine PO.noGoto ?_)) (fun _ s => Held.of s (by repeat (first | exact Sub.nil _ | refine Sub.cons1 (by repeat (first | exact Take.head _ _ | apply Take.tail)) ?_))) ?_
            refine TW.take rfl (Yl.move rfl) rfl ?_
            refine TW.take rfl (Yl.neq false rfl rfl (rfl)) rfl ?_
            refine TW.take rfl (Yl.move rfl) rfl ?_
            refine TW.on 73 rfl rfl rfl (Yl.move rfl) rfl ?_
            refine TW.on 73 rfl rfl rfl (Yl.bytesRow (s.now.getD i []) rfl Tryd.underlying26 Tryd.underlying5 Tryd.underlying9 (by repeat (first | exact List.Mem.head _ | refine List.Mem.tail _ ?_)) ((fun j v hj => by rw [Nat.zero_add]; exact hj)) (hxl.symm)) rfl ?_
            refine TW.on 73 rfl rfl rfl (Yl.move rfl) rfl ?_
            refine TW.on 73 rfl rfl rfl (Yl.nilPtr rfl) rfl ?_
            refine TW.on 73 rfl rfl rfl (Yl.fieldAddr _ rfl (fun _ => FactsDevAllDef.fa71_0 _ _ _)) rfl ?_
            refine TW.on 73 rfl rfl rfl (Yl.load (v := .slice (some ⟨bN, 0, none⟩) n capN) rfl (by repeat (first | exact List.Mem.head _ | refine List.Mem.tail _ ?_)) ((by rw [← hvN]; rfl)) FactsDevAllDef.one51) rfl ?_
            refine TW.on 73 rfl rfl rfl (Yl.move rfl) rfl ?_
            refine TW.on 73 rfl rfl rfl (Yl.indexAddr (i) rfl rfl Tryd.underlying51 FactsDevAllDef.ixs51 (by omega) (by omega) (by simp)) rfl ?_
            refine TW.on 73 rfl rfl rfl (Yl.load (v := .slice (some ai) 64 cpi) rfl (by repeat (first | exact List.Mem.head _ | refine List.Mem.tail _ ?_)) ((by rw [List.getElem?_append_left (by omega), hr.secN.get hin2, hvi])) FactsDevAllDef.one26) rfl ?_
            refine TW.nil ?_
            refine AW.act 12 (by kernel_rfl) rfl ?_
            refine LW.on 73 rfl rfl ?_
            refine LW.bytesStr (s.now.getD i []) rfl Tryd.underlying26 Tryd.underlying5 Tryd.underlying9 (hsa.rd (by repeat (first | exact Take.head _ _ | apply Take.tail))) (hxl.symm) rfl ?_
            refine LW.nil ?_
            refine AW.back (fun _ s => Held.of s (by repeat (first | exact Sub.nil _ | refine Sub.cons1 (by repeat (first | exact Take.head _ _ | apply Take.tail)) ?_))) ?_
            refine AW.takes [13, 14] 0 (by kernel_rfl) (by kernel_rfl) rfl (by repeat (first | exact PO.body | refine PO.then_ ?_ | refine PO.block ?_ | refine PO.noGoto ?_)) (fun _ s => Held.of s (by repeat (first | exact Sub.nil _ | refine Sub.cons1 (by repeat (first | exact Take.head _ _ | apply Take.tail)) ?_))) ?_
            refine TW.on 73 rfl rfl rfl (Yl.strNeq (false) rfl rfl Tryd.underlying9 (decide_eq_false (by simp))) rfl ?_
            refine TW.take rfl (Yl.pickF rfl rfl) rfl ?_
            refine TW.nil ?_
            refine AW.done (by kernel_rfl) ?_
            refine NW.then_ ?_
            refine CW.cond_false rfl ?_
            refine CW.skip ?_
            refine NW.block ?_
            refine NW.then_ ?_
            refine CW.region ?_
            refine LW.add64 rfl rfl (by omega) (by omega) rfl ?_
            refine LW.move rfl rfl ?_
            refine LW.nil ?_
            refine NW.meet (k + 1) ?j3 ?e3 ?h3
            case j3 => exact ⟨by omega, by omega⟩
            case e3 => repeat (first | exact Env.Le.nil _ | refine Env.Le.cons rfl ?_)
            case h3 => repeat (first | exact Sub.heap_nil _ | exact Sub.refl _ | refine Sub.heap_cons (by repeat (first | exact Take.head _ _ | apply Take.tail)) ?_)
          · refine LW.move rfl rfl ?_
            refine LW.move rfl rfl ?_
            refine LW.call (dev_Read_no W B p bn bw bl n s x (by simpa using hin)) Tryd.func20 rfl FactsDevAllDef.fname20 ⟨rfl, rfl, trivial⟩ (by repeat (first | exact Take.head _ _ | apply Take.tail)) rfl ?_
            rintro _ _ ⟨rfl, rfl⟩
            refine LW.move rfl rfl ?_
            refine LW.extract rfl rfl rfl ?_
            refine LW.extract rfl rfl rfl ?_
            refine LW.assign rfl rfl ?_
            refine LW.assign rfl rfl ?_
            refine LW.nil ?_
            refine NW.then_ ?_
            refine CW.seq ?_
            refine CW.seq ?_
            have hxn : ¬ (0 ≤ x ∧ x < (n : Int)) := by simpa [isB] using hin
            refine CW.region ?_
            refine LW.move rfl rfl ?_
            by_cases hx9 : x < 0
            · refine LW.lss true rfl rfl (decide_eq_true (by omega)) rfl ?_
              refine LW.move rfl rfl ?_
              refine LW.off 55 rfl rfl rfl rfl ?_
              refine LW.off 55 rfl rfl rfl rfl ?_
              refine LW.off 55 rfl rfl rfl rfl ?_
              refine LW.off 55 rfl rfl rfl rfl ?_
              refine LW.off 55 rfl rfl rfl rfl ?_
              refine LW.off 55 rfl rfl rfl rfl ?_
              refine LW.off 55 rfl rfl rfl rfl ?_
              refine LW.pickT rfl rfl rfl ?_
              refine LW.nil ?_
              refine NW.then_ ?_
              refine CW.cond_true rfl ?_
              refine CW.seq ?_
              refine CW.seq ?_
              refine CW.region ?_
              refine LW.move rfl rfl ?_
              refine LW.neq false rfl rfl (rfl) rfl ?_
              refine LW.move rfl rfl ?_
              refine LW.on 66 rfl rfl ?_
              refine LW.move rfl rfl ?_
              refine LW.on 66 rfl rfl ?_
              refine LW.lenSlice rfl Tryd.underlying26 rfl ?_
              refine LW.on 66 rfl rfl ?_
              refine LW.neq false rfl rfl (rfl) rfl ?_
              refine LW.pickF rfl rfl rfl ?_
              refine LW.nil ?_
              refine NW.then_ ?_
              refine CW.cond_false rfl ?_
              refine CW.skip ?_
              refine NW.then_ ?_
              refine CW.exit ?_
              refine NW.then_exit ?_
              refine NW.block_exit ?_
              refine NW.then_ ?_
              refine CW.region ?_
              refine LW.add64 rfl rfl (by omega) (by omega) rfl ?_
              refine LW.move rfl rfl ?_
              refine LW.nil ?_
              refine NW.meet (k + 1) ?j4 ?e4 ?h4
              case j4 => exact ⟨by omega, by omega⟩
              case e4 => repeat (first | exact Env.Le.nil _ | refine Env.Le.cons rfl ?_)
              case h4 => repeat (first | exact Sub.heap_nil _ | exact Sub.refl _ | refine Sub.heap_cons (by repeat (first | exact Take.head _ _ | apply Take.tail)) ?_)
            · refine LW.lss false rfl rfl (decide_eq_false (by omega)) rfl ?_
              refine LW.move rfl rfl ?_
              refine LW.on 55 rfl rfl ?_
              refine LW.move rfl rfl ?_
              refine LW.on 55 rfl rfl ?_
              refine LW.move rfl rfl ?_
              refine LW.on 55 rfl rfl ?_
              refine LW.nilPtr rfl rfl ?_
              refine LW.on 55 rfl rfl ?_
              refine LW.fieldAddr _ rfl (fun _ => FactsDevAllDef.fa71_0 _ _ _) rfl ?_
              refine LW.on 55 rfl rfl ?_
              refine LW.load (v := .slice (some ⟨bN, 0, none⟩) n capN) rfl (by repeat (first | exact Take.head _ _ | apply Take.tail)) ((by rw [← hvN]; rfl)) FactsDevAllDef.one51 rfl ?_
              refine LW.on 55 rfl rfl ?_
              refine LW.lenSlice rfl Tryd.underlying51 rfl ?_
              refine LW.on 55 rfl rfl ?_
              refine LW.geq true rfl rfl (decide_eq_true (by omega)) rfl ?_
              refine LW.pickF rfl rfl rfl ?_
              refine LW.nil ?_
              refine NW.then_ ?_
              refine CW.cond_true rfl ?_
              refine CW.seq ?_
              refine CW.seq ?_
              refine CW.region ?_
              refine LW.move rfl rfl ?_
              refine LW.neq false rfl rfl (rfl) rfl ?_
              refine LW.move rfl rfl ?_
              refine LW.on 66 rfl rfl ?_
              refine LW.move rfl rfl ?_
              refine LW.on 66 rfl rfl ?_
              refine LW.lenSlice rfl Tryd.underlying26 rfl ?_
              refine LW.on 66 rfl rfl ?_
              refine LW.neq false rfl rfl (rfl) rfl ?_
              refine LW.pickF rfl rfl rfl ?_
              refine LW.nil ?_
              refine NW.then_ ?_
              refine CW.cond_false rfl ?_
              refine CW.skip ?_
              refine NW.then_ ?_
              refine CW.exit ?_
              refine NW.then_exit ?_
              refine NW.block_exit ?_
              refine NW.then_ ?_
              refine CW.region ?_
              refine LW.add64 rfl rfl (by omega) (by omega) rfl ?_
              refine LW.move rfl rfl ?_
              refine LW.nil ?_
              refine NW.meet (k + 1) ?j5 ?e5 ?h5
              case j5 => exact ⟨by omega, by omega⟩
              case e5 => repeat (first | exact Env.Le.nil _ | refine Env.Le.cons rfl ?_)
              case h5 => repeat (first | exact Sub.heap_nil _ | exact Sub.refl _ | refine Sub.heap_cons (by repeat (first | exact Take.head _ _ | apply Take.tail)) ?_)
        · replace hc44 := of_decide_eq_false hc44
          try dsimp only at hc44
          refine CW.exit ?_
          refine NW.then_exit ?_
          refine NW.then_exit ?_
          refine NW.block_exit ?_
          refine NW.then_ ?_
          refine CW.seq ?_
          refine CW.region ?_
          refine LW.assign rfl rfl ?_
          refine LW.nil ?_
          refine NW.then_ ?_
          refine CW.ret ?_
          refine NW.ret1 rfl rfl ⟨_, ⟨rfl, rfl⟩, ?_⟩
          rw [← hchN]; exact Sub.app (by repeat (first | exact Take.head _ _ | apply Take.tail)) (Sub.take (by repeat (first | exact Take.head _ _ | apply Take.tail)) (Sub.one (Take.rd (by repeat (first | exact Take.head _ _ | apply Take.tail)) (by repeat (first | exact Take.head _ _ | apply Take.tail)) (by repeat (first | exact Take.head _ _ | apply Take.tail)) (by repeat (first | exact Take.head _ _ | apply Take.tail)) (by repeat (first | exact Take.head _ _ | apply Take.tail)))))
end
end Go.Proofs.YtmgpldgldgdenaaDoor
