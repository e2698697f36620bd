/-
  A LOG's RING READ: the contracts.
-/
import Derived.Test.YtpnhonhjheahhaaDoorWalDef
namespace Go.Proofs.YtpnhonhjheahhaaDoor
open Go.RowKit
namespace FactsWal1
theorem fname40 : (Tryd.f40.name == "runtime.NumGoroutine") = false := by kernel_rfl
theorem fname43 : (Tryd.f43.name == "runtime.NumGoroutine") = false := by kernel_rfl
theorem info31 : (Tryd.prog.info? 31).map (fun i => (i.zero, i.size, i.bytes)) = some (some (.slice none 0 0), 1, 24) := by kernel_rfl
theorem info5 : (Tryd.prog.info? 5).map (fun i => (i.zero, i.size, i.bytes)) = some (some (.int .u8 0), 1, 1) := by kernel_rfl
theorem ixs31 : (Tryd.prog.info? 5).map (·.size) = some 1 := by kernel_rfl
theorem mixed : Tryd.prog.follows .mixedOrders = true := by kernel_rfl
theorem one5 : oneB Tryd.prog 5 = true := by kernel_rfl
theorem szt5 : (Tryd.prog.info? 5).map (·.size) = some 1 := by kernel_rfl
end FactsWal1
/-- A slice value onto these bytes, that lie in these rows; slice by slice. -/
def RecAt (W : World) (B : Nat) (ar : List Row) (v : Value) (bs : List UInt8) : Prop := ∃ A cp, v = .slice A bs.length cp ∧ Src W B ar A (bs.map u8v) ∧ (A = none → bs.length = 0) ∧ bs.length ≤ cp
theorem Src.more {W : World} {B : Nat} {r r' : List Row} {A : Option Addr} {xs : List Value} (k : Src W B r A xs) (h : ∀ x ∈ r, x ∈ r') : Src W B r' A xs := by
  rcases k with h1 | ⟨a, h1, h2 | ⟨b, o, t, l, h3, h4, h5⟩⟩
  · exact .inl h1
  · exact .inr ⟨a, h1, .inl h2⟩
  · exact .inr ⟨a, h1, .inr ⟨b, o, t, l, h3, h _ h4, h5⟩⟩
theorem RecAt.more {W : World} {B : Nat} {r r' : List Row} {v : Value} {bs : List UInt8} (k : RecAt W B r v bs) (h : ∀ x ∈ r, x ∈ r') : RecAt W B r' v bs := by
  obtain ⟨A, cp, h1, h2, h3⟩ := k
  exact ⟨A, cp, h1, h2.more h, h3⟩
theorem RecAt.own {W : World} {B : Nat} {v : Value} {bs : List UInt8} {ch : List Row} (o : OwnB v bs ch) : RecAt W B ch v bs := by
  obtain ⟨A, cp, rfl, hA, hc⟩ := OwnS.val o
  exact ⟨A, cp, rfl, OwnS.src o, hA, hc⟩
def RecsAt (W : World) (B : Nat) (ar : List Row) (vs : List Value) (l : List (List UInt8)) : Prop := vs.length = l.length ∧ ∀ i, i < l.length → RecAt W B ar (vs.getD i undef) (l.getD i [])
theorem RecsAt.nil {W : World} {B : Nat} {ar : List Row} : RecsAt W B ar [] [] := ⟨rfl, fun i hi => by simp at hi⟩
theorem RecsAt.more {W : World} {B : Nat} {r r' : List Row} {vs : List Value} {l : List (List UInt8)} (k : RecsAt W B r vs l) (h : ∀ x ∈ r, x ∈ r') : RecsAt W B r' vs l := ⟨k.1, fun i hi => (k.2 i hi).more h⟩
theorem RecsAt.app {W : World} {B : Nat} {r : List Row} {vs : List Value} {l : List (List UInt8)} (k : RecsAt W B r vs l) {v : Value} {bs : List UInt8} (hv : RecAt W B r v bs) : RecsAt W B r (vs ++ [v]) (l ++ [bs]) := by
  refine ⟨by rw [List.length_append, List.length_append, k.1]; rfl, fun j hj => ?_⟩
  rw [List.length_append] at hj
  rcases Nat.lt_or_ge j l.length with h | h
  · rw [List.getD_eq_getElem?_getD, List.getElem?_append_left (by rw [k.1]; exact h), ← List.getD_eq_getElem?_getD, List.getD_eq_getElem?_getD (l := l ++ [bs]), List.getElem?_append_left h, ← List.getD_eq_getElem?_getD]
    exact k.2 j h
  · obtain rfl : j = l.length := by simp at hj; omega
    rw [List.getD_eq_getElem?_getD, List.getElem?_append_right (by rw [k.1]; exact Nat.le_refl _), k.1, Nat.sub_self, List.getD_eq_getElem?_getD (l := l ++ [bs]), List.getElem?_append_right (Nat.le_refl _), Nat.sub_self]
    exact hv
section
variable (W : World) (B : Nat)
theorem wal_ring (p bn bw bl n : Nat) (s : DevS) (h0 : 64 ≤ n) (h1 : n ≤ 4096) : Spec Tryd.prog W B 44 [.pointer (some ⟨p, 0, none⟩)] (devC p bn bw bl n s) (fun v post => v = .int .i64 (ringN n : Int) ∧ post = devC p bn bw bl n s) := by
  refine Spec.enter ([devC p bn bw bl n s]) Tryd.func44 rfl Tryd.ntmps44 rfl (by first | rfl | simp) (fun w0 => ?_)
  refine CW.seq ?_
  refine CW.region ?_
  refine LW.assign rfl rfl ?_
  refine LW.nil ?_
  refine NW.then_ ?_
  refine CW.seq ?_
  refine CW.region ?_
  refine LW.move rfl rfl ?_
  refine LW.call (dev_Sectors W B p bn bw bl n s) Tryd.func43 rfl FactsWal1.fname43 ⟨rfl, trivial⟩ (by repeat (first | exact Take.head _ _ | apply Take.tail)) rfl ?_
  rintro _ _ ⟨rfl, rfl⟩
  refine LW.quoN rfl rfl (by omega) (by omega) rfl ?_
  refine LW.sub64 rfl rfl (by omega) (by omega) rfl ?_
  refine LW.mul64 rfl rfl (by omega) (by omega) rfl ?_
  refine LW.assign rfl rfl ?_
  refine LW.nil ?_
  refine NW.then_ ?_
  refine CW.ret ?_
  refine NW.ret1 rfl rfl ⟨_, ⟨by unfold ringN; congr 1; omega, rfl⟩, ?_⟩
  exact Sub.one (by repeat (first | exact Take.head _ _ | apply Take.tail))

theorem wal_bytes (p bn bw bl n : Nat) (s : DevS) (hs : s.Ok n) (m : Nat) (hm : m ≤ ringN n) :
    Spec Tryd.prog W B 48 [.pointer (some ⟨p, 0, none⟩), .int .i64 (m : Int)] (devC p bn bw bl n s) (fun v post => ∃ ch, RecAt W B ch v (bytesC s.N m) ∧ post = ch ++ devC p bn bw bl n s) := by
  have hn0 := hs.n0
  have hn1 := hs.n1
  unfold ringN at hm
  have hNl : ∀ i, i < n → (s.N i).length = 64 := fun i hi => hs.now.get (hs.now.getD hi)
  refine Spec.enter ([devC p bn bw bl n s]) Tryd.func48 rfl Tryd.ntmps48 rfl (by first | rfl | simp) (fun w0 => ?_)
  refine CW.seq ?_
  refine CW.region ?_
  refine LW.assign rfl rfl ?_
  refine LW.nil ?_
  refine NW.then_ ?_
  refine CW.seq ?_
  refine CW.region ?_
  refine LW.assign rfl rfl ?_
  refine LW.nil ?_
  refine NW.then_ ?_
  refine CW.seq ?_
  refine CW.seq ?_
  refine CW.region ?_
  refine LW.assign rfl rfl ?_
  refine LW.nil ?_
  refine NW.then_ ?_
  refine CW.block ?_
  refine CW.loop (fun st : Nat × Value × List Row => [(6, .int .i64 (2 + (st.1 : Int))), (5, st.2.1), (1, .int .i64 (m : Int)), (0, .pointer (some ⟨p, 0, none⟩))]) (fun st => [st.2.2, devC p bn bw bl n s]) (fun st => (st.1 = 0 ∨ 64 * (st.1 - 1) < m) ∧ OwnB st.2.1 (secsC s.N 2 st.1) st.2.2) (fun st => m + 64 - 64 * st.1) (0, .slice none 0 0, []) ?st3_j ?st3_e ?st3_h ?st3_r
  case st3_j => exact ⟨.inl rfl, OwnB.nil⟩
  case st3_e => repeat (first | exact Env.Le.nil _ | refine Env.Le.cons rfl ?_)
  case st3_h => repeat (first | exact Sub.heap_nil _ | exact Sub.refl _ | refine Sub.heap_cons (Take.none _) ?_ | refine Sub.heap_cons (by repeat (first | exact Take.head _ _ | apply Take.tail)) ?_)
  case st3_r =>
    rintro ⟨j, v, ch⟩ ⟨hj, ho⟩; dsimp only at hj ho; have hjl : (secsC s.N 2 j).length = 64 * j := secsC_len _ _ _ (fun k hk => hNl _ (by omega)); obtain ⟨A, cp, rfl, hA, hc⟩ := OwnS.val ho; rw [hjl] at hc ⊢
    try dsimp only
    refine CW.seq ?_
    refine CW.seq ?_
    refine CW.region ?_
    refine LW.move rfl rfl ?_
    refine LW.lenSlice rfl Tryd.underlying31 rfl ?_
    refine LW.move rfl rfl ?_
    refine LW.lss _ rfl rfl rfl rfl ?_
    refine LW.nil ?_
    refine NW.then_ ?_
    refine CW.cond rfl (fun hc12 => ?_) (fun hc12 => ?_)
    · replace hc12 := of_decide_eq_true hc12
      try dsimp only at hc12
      have hjm : 64 * j < m := by omega
      have hN9 : s.now.getD (2 + j) [] = s.N (2 + j) := rfl
      have hl9 := hNl (2 + j) (by omega)
      refine CW.skip ?_
      refine NW.then_ ?_
      refine CW.seq ?_
      refine CW.block ?_
      refine CW.seq ?_
      refine CW.region ?_
      refine LW.move rfl rfl ?_
      refine LW.move rfl rfl ?_
      refine LW.call (dev_Read W B p bn bw bl n s hs (2 + j) (by omega)) Tryd.func40 rfl FactsWal1.fname40 ⟨rfl, rfl, trivial⟩ (by repeat (first | exact Take.head _ _ | apply Take.tail)) rfl ?_
      rw [hN9]; rintro _ _ ⟨q1, rfl, rfl⟩; refine LW.split1 ?_
      refine LW.move rfl rfl ?_
      refine LW.extract rfl rfl rfl ?_
      refine LW.extract rfl rfl rfl ?_
      refine LW.assign rfl rfl ?_
      refine LW.assign rfl rfl ?_
      refine LW.nil ?_
      refine NW.then_ ?_
      refine CW.region ?_
      refine LW.move rfl rfl ?_
      refine LW.move rfl rfl ?_
      refine LW.append ((s.N (2 + j)).map u8v) rfl rfl Tryd.underlying31 Tryd.underlying31 (.inr ⟨_, rfl⟩) FactsWal1.info5 rfl ((by unfold OwnB at ho; rw [hjl] at ho; exact ho)) (by repeat (first | exact Take.head _ _ | apply Take.tail)) (fun _ => lenOf_slice _ _ _ _) (first_rd (RdAt.row (by repeat (first | exact Take.head _ _ | apply Take.tail)) (fun j v hj => by rw [Nat.zero_add]; exact hj)) (by rw [List.length_map, hl9]) (fun h => (by cases h))) (by rw [List.length_map, hl9]) (u8vs_one _) (by omega) (by omega) rfl ?_
      intro v' ch' ho'
      refine LW.assign rfl rfl ?_
      refine LW.nil ?_
      refine NW.block ?_
      refine NW.then_ ?_
      refine CW.region ?_
      refine LW.move rfl rfl ?_
      refine LW.add64 rfl rfl (by omega) (by omega) rfl ?_
      refine LW.assign rfl rfl ?_
      refine LW.nil ?_
      refine NW.meet ((j + 1, v', ch')) ?j1 ?e1 ?h1
      case j1 => exact ⟨⟨.inr (by dsimp only; omega), by rw [secsC_succ]; exact OwnB.app ho' hjl.symm hl9.symm⟩, by dsimp only; omega⟩
      case e1 => repeat (first | exact Env.Le.nil _ | refine Env.Le.cons rfl ?_)
      case h1 => repeat (first | exact Sub.heap_nil _ | exact Sub.refl _ | refine Sub.heap_cons (Take.none _) ?_ | refine Sub.heap_cons (by repeat (first | exact Take.head _ _ | apply Take.tail)) ?_)
    · replace hc12 := of_decide_eq_false hc12
      try dsimp only at hc12
      have hjm : m ≤ 64 * j := by omega
      have hje : (m + 63) / 64 = j := by omega
      refine CW.exit ?_
      refine NW.then_exit ?_
      refine NW.then_exit ?_
      refine NW.block_exit ?_
      refine NW.then_ ?_
      refine CW.seq ?_
      refine CW.region ?_
      refine LW.move rfl rfl ?_
      refine LW.move rfl rfl ?_
      refine LW.cut (0) (m) (cp) none (some _) none rfl Tryd.underlying31 FactsWal1.szt5 (fun a hf => rfl) (fun a hf => congrArg some (hf.eval rfl)) (fun a hf => rfl) (.inl ⟨rfl, rfl⟩) (.inr ⟨_, rfl⟩) (.inl ⟨rfl, rfl⟩) (by omega) (by omega) (by omega) (by omega) rfl ?_
      refine LW.assign rfl rfl ?_
      refine LW.nil ?_
      refine NW.then_ ?_
      refine CW.ret ?_
      refine NW.ret1 rfl rfl ⟨_, ⟨ch, ⟨_, _, by rw [cutA_zero', bytesC, hje, List.length_take, hjl, show min m (64 * j) = m by omega]; rfl, by rw [bytesC, hje, List.map_take]; exact (OwnS.src ho).sub m, fun h => by have := hA h; rw [bytesC, List.length_take, hje]; omega, by rw [bytesC, List.length_take]; omega⟩, rfl⟩, ?_⟩
      exact Sub.take (by repeat (first | exact Take.head _ _ | apply Take.tail)) (Sub.one (by repeat (first | exact Take.head _ _ | apply Take.tail)))

theorem or256 (a b : UInt8) : bits .or .i64 (a.toNat : Int) ((b.toNat : Int) * 256) = ((a.toNat + b.toNat * 256 : Nat) : Int) := by
  have h1 := a.toNat_lt
  have h2 := b.toNat_lt
  have h := or_acc a.toNat b.toNat 1 (by simpa using h1) h2 (by omega)
  rw [wr64 (p := (a.toNat : Int)) rfl (by omega) (by omega), wr64 (p := (b.toNat : Int) * 2 ^ (8 * 1)) (r := (b.toNat : Int) * 256) rfl (by omega) (by omega)] at h
  rw [h]
  exact wr64 (by simp) (by omega) (by omega)
set_option maxHeartbeats 1000000 in
theorem wal_records (src : List Row) (A : Option Addr) (cp : Nat) (bs : List UInt8) (hsrc : Src W B src A (bs.map u8v)) (hbc : bs.length ≤ cp) (hb : bs.length ≤ 1000000) :
    Spec Tryd.prog W B 47 [.slice A bs.length cp] src
      (fun v post => (recsOf bs = none ∧ v = .tuple #[.slice none 0 0, .bool false] ∧ post = src) ∨
        (∃ rs v4 vs ch ar, recsOf bs = some rs ∧ v = .tuple #[v4, .bool true] ∧ OwnS 31 1 v4 rs.length vs ch ∧ RecsAt W B ar vs rs ∧ post = src ++ (ch ++ ar))) := by
  refine Spec.enter ([src]) Tryd.func47 rfl Tryd.ntmps47 rfl (by first | rfl | simp) (fun w0 => ?_)
  refine CW.seq ?_
  refine CW.region ?_
  refine LW.assign rfl rfl ?_
  refine LW.assign rfl rfl ?_
  refine LW.nil ?_
  refine NW.then_ ?_
  refine CW.seq ?_
  refine CW.region ?_
  refine LW.assign rfl rfl ?_
  refine LW.nil ?_
  refine NW.then_ ?_
  refine CW.seq ?_
  refine CW.block ?_
  refine CW.loop (fun st : List UInt8 × Value × Value × List Value × List (List UInt8) × List Row × List Row => [(4, st.2.2.1), (0, st.2.1)]) (fun st => [src, st.2.2.2.2.2.1, st.2.2.2.2.2.2]) (fun st => RdS W B st.2.1 st.1 src ∧ OwnS 31 1 st.2.2.1 st.2.2.2.2.1.length st.2.2.2.1 st.2.2.2.2.2.1 ∧ RecsAt W B st.2.2.2.2.2.2 st.2.2.2.1 st.2.2.2.2.1 ∧ recsOf bs = (recsOf st.1).map (st.2.2.2.2.1 ++ ·) ∧ st.2.2.2.2.1.length + st.1.length ≤ bs.length) (fun st => st.1.length) (bs, .slice A bs.length cp, .slice none 0 0, [], [], [], []) ?st2_j ?st2_e ?st2_h ?st2_r
  case st2_j => exact ⟨⟨A, cp, rfl, hbc, hsrc⟩, OwnS.nil, RecsAt.nil, by cases recsOf bs <;> simp, by simp⟩
  case st2_e => repeat (first | exact Env.Le.nil _ | refine Env.Le.cons rfl ?_)
  case st2_h => repeat (first | exact Sub.heap_nil _ | exact Sub.refl _ | refine Sub.heap_cons (Take.none _) ?_ | refine Sub.heap_cons (by repeat (first | exact Take.head _ _ | apply Take.tail)) ?_)
  case st2_r =>
    rintro ⟨b, v0, v4, vs, l, ch, ar⟩ ⟨hv0, ho, hrs, hrec, hlen⟩; dsimp only at hv0 ho hrs hrec hlen; obtain ⟨A0, cp0, rfl, hc0, hs0⟩ := hv0
    try dsimp only
    refine CW.seq ?_
    refine CW.seq ?_
    refine CW.region ?_
    refine LW.move rfl rfl ?_
    refine LW.lenSlice rfl Tryd.underlying31 rfl ?_
    refine LW.gtr _ rfl rfl rfl rfl ?_
    refine LW.nil ?_
    refine NW.then_ ?_
    refine CW.cond rfl (fun hc8 => ?_) (fun hc8 => ?_)
    · replace hc8 := of_decide_eq_true hc8
      try dsimp only at hc8
      have hbl : 0 < b.length := by omega
      obtain ⟨a0, rfl⟩ : ∃ a, A0 = some a := hs0.some (by rw [List.length_map]; omega)
      refine CW.skip ?_
      refine NW.then_ ?_
      refine CW.block ?_
      refine CW.seq ?_
      refine CW.seq ?_
      refine CW.region ?_
      refine LW.move rfl rfl ?_
      refine LW.lenSlice rfl Tryd.underlying31 rfl ?_
      refine LW.lss _ rfl rfl rfl rfl ?_
      refine LW.nil ?_
      refine NW.then_ ?_
      refine CW.cond rfl (fun hc11 => ?_) (fun hc11 => ?_)
      · replace hc11 := of_decide_eq_true hc11
        try dsimp only at hc11
        have hno := recsOf_bad (by omega) (.inl (by omega : b.length < 2))
        rw [hno, Option.map_none] at hrec
        refine CW.seq ?_
        refine CW.region ?_
        refine LW.assign rfl rfl ?_
        refine LW.assign rfl rfl ?_
        refine LW.nil ?_
        refine NW.then_ ?_
        refine CW.ret ?_
        refine NW.then_ret ?_
        refine NW.block_ret ?_
        refine NW.then_ret ?_
        refine NW.block_ret ?_
        refine NW.then_ret ?_
        refine NW.ret2 rfl rfl rfl ⟨_, .inl ⟨hrec, rfl, rfl⟩, ?_⟩
        exact Sub.one (by repeat (first | exact Take.head _ _ | apply Take.tail))
      · replace hc11 := of_decide_eq_false hc11
        try dsimp only at hc11
        have hget : ∀ i, i < b.length → (b.map u8v)[i]? = some (.int .u8 ((b.getD i 0).toNat : Int)) := fun i hi => by simp [List.getD, List.getElem?_eq_getElem hi, u8v]
        have h9a := (b.getD 0 0).toNat_lt
        have h9b := (b.getD 1 0).toNat_lt
        refine CW.skip ?_
        refine NW.then_ ?_
        refine CW.seq ?_
        refine CW.quiet FactsWal1.mixed (by kernel_rfl) ?_
        refine QW.step (Yl.move rfl) rfl ?_
        refine QW.step (Yl.indexAt rfl rfl Tryd.underlying31 FactsWal1.ixs31 (by omega) (by omega)) rfl ?_
        refine QW.step (Yl.loadRd (v := .int .u8 ((b.getD 0 0).toNat : Int)) rfl (hs0.rd (by repeat (first | exact Take.head _ _ | apply Take.tail))) (hget 0 (by omega)) FactsWal1.one5) rfl ?_
        refine QW.step (Yl.convInt (((b.getD 0 0).toNat : Int)) rfl Tryd.underlying5 Tryd.underlying3 (by first | rfl | exact wr64 (by omega) (by omega) (by omega))) rfl ?_
        refine QW.step (Yl.move rfl) rfl ?_
        refine QW.step (Yl.indexAt rfl rfl Tryd.underlying31 FactsWal1.ixs31 (by omega) (by omega)) rfl ?_
        refine QW.step (Yl.loadRd (v := .int .u8 ((b.getD 1 0).toNat : Int)) rfl (hs0.rd (by repeat (first | exact Take.head _ _ | apply Take.tail))) (hget 1 (by omega)) FactsWal1.one5) rfl ?_
        refine QW.step (Yl.convInt (((b.getD 1 0).toNat : Int)) rfl Tryd.underlying5 Tryd.underlying3 (by first | rfl | exact wr64 (by omega) (by omega) (by omega))) rfl ?_
        refine QW.step (Yl.shl (((b.getD 1 0).toNat : Int) * 256) rfl rfl (by omega) ((by rw [show min (8 : Int).toNat IntKind.i64.bits = 8 from rfl]; exact wr64 rfl (by omega) (by omega)))) rfl ?_
        refine QW.step (Yl.or_ (((recLen b : Nat) : Int)) rfl rfl (or256 _ _)) rfl ?_
        refine QW.step (Yl.assign rfl) rfl ?_
        refine QW.nil ?_
        refine NW.then_ ?_
        refine CW.seq ?_
        refine CW.seq ?_
        have hno : b.length < 2 ∨ recLen b < 1 ∨ 1000 < recLen b ∨ b.length - 2 < recLen b → recsOf b = none := recsOf_bad (by omega)
        have hyes := fun h1 h2 h3 => recsOf_step (b := b) (by omega) h1 h2 h3
        generalize recLen b = k at hno hyes ⊢
        refine CW.region ?_
        refine LW.move rfl rfl ?_
        by_cases hk1 : k < 1
        · refine LW.lss true rfl rfl (decide_eq_true (by omega)) rfl ?_
          refine LW.move rfl rfl ?_
          refine LW.off 24 rfl rfl rfl rfl ?_
          refine LW.off 24 rfl rfl rfl rfl ?_
          refine LW.pickT rfl rfl rfl ?_
          refine LW.move rfl rfl ?_
          refine LW.off 28 rfl rfl rfl rfl ?_
          refine LW.off 28 rfl rfl rfl rfl ?_
          refine LW.off 28 rfl rfl rfl rfl ?_
          refine LW.off 28 rfl rfl rfl rfl ?_
          refine LW.off 28 rfl rfl rfl rfl ?_
          refine LW.pickT rfl rfl rfl ?_
          refine LW.nil ?_
          refine NW.then_ ?_
          refine CW.cond_true rfl ?_
          refine CW.seq ?_
          rw [hno (by omega), Option.map_none] at hrec
          refine CW.region ?_
          refine LW.assign rfl rfl ?_
          refine LW.assign rfl rfl ?_
          refine LW.nil ?_
          refine NW.then_ ?_
          refine CW.ret ?_
          refine NW.then_ret ?_
          refine NW.block_ret ?_
          refine NW.then_ret ?_
          refine NW.block_ret ?_
          refine NW.then_ret ?_
          refine NW.ret2 rfl rfl rfl ⟨_, .inl ⟨hrec, rfl, rfl⟩, ?_⟩
          exact Sub.one (by repeat (first | exact Take.head _ _ | apply Take.tail))
        · refine LW.lss false rfl rfl (decide_eq_false (by omega)) rfl ?_
          refine LW.move rfl rfl ?_
          refine LW.on 24 rfl rfl ?_
          refine LW.move rfl rfl ?_
          by_cases hk2 : 1000 < k
          · refine LW.on 24 rfl rfl ?_
            refine LW.gtr true rfl rfl (decide_eq_true (by omega)) rfl ?_
            refine LW.pickF rfl rfl rfl ?_
            refine LW.move rfl rfl ?_
            refine LW.off 28 rfl rfl rfl rfl ?_
            refine LW.off 28 rfl rfl rfl rfl ?_
            refine LW.off 28 rfl rfl rfl rfl ?_
            refine LW.off 28 rfl rfl rfl rfl ?_
            refine LW.off 28 rfl rfl rfl rfl ?_
            refine LW.pickT rfl rfl rfl ?_
            refine LW.nil ?_
            refine NW.then_ ?_
            refine CW.cond_true rfl ?_
            refine CW.seq ?_
            rw [hno (by omega), Option.map_none] at hrec
            refine CW.region ?_
            refine LW.assign rfl rfl ?_
            refine LW.assign rfl rfl ?_
            refine LW.nil ?_
            refine NW.then_ ?_
            refine CW.ret ?_
            refine NW.then_ret ?_
            refine NW.block_ret ?_
            refine NW.then_ret ?_
            refine NW.block_ret ?_
            refine NW.then_ret ?_
            refine NW.ret2 rfl rfl rfl ⟨_, .inl ⟨hrec, rfl, rfl⟩, ?_⟩
            exact Sub.one (by repeat (first | exact Take.head _ _ | apply Take.tail))
          · refine LW.on 24 rfl rfl ?_
            refine LW.gtr false rfl rfl (decide_eq_false (by omega)) rfl ?_
            refine LW.pickF rfl rfl rfl ?_
            refine LW.move rfl rfl ?_
            refine LW.on 28 rfl rfl ?_
            refine LW.move rfl rfl ?_
            refine LW.on 28 rfl rfl ?_
            refine LW.move rfl rfl ?_
            refine LW.on 28 rfl rfl ?_
            refine LW.lenSlice rfl Tryd.underlying31 rfl ?_
            refine LW.on 28 rfl rfl ?_
            refine LW.sub64 rfl rfl (by omega) (by omega) rfl ?_
            by_cases hk3 : b.length - 2 < k
            · refine LW.on 28 rfl rfl ?_
              refine LW.gtr true rfl rfl (decide_eq_true (by omega)) rfl ?_
              refine LW.pickF rfl rfl rfl ?_
              refine LW.nil ?_
              refine NW.then_ ?_
              refine CW.cond_true rfl ?_
              refine CW.seq ?_
              rw [hno (by omega), Option.map_none] at hrec
              refine CW.region ?_
              refine LW.assign rfl rfl ?_
              refine LW.assign rfl rfl ?_
              refine LW.nil ?_
              refine NW.then_ ?_
              refine CW.ret ?_
              refine NW.then_ret ?_
              refine NW.block_ret ?_
              refine NW.then_ret ?_
              refine NW.block_ret ?_
              refine NW.then_ret ?_
              refine NW.ret2 rfl rfl rfl ⟨_, .inl ⟨hrec, rfl, rfl⟩, ?_⟩
              exact Sub.one (by repeat (first | exact Take.head _ _ | apply Take.tail))
            · refine LW.on 28 rfl rfl ?_
              refine LW.gtr false rfl rfl (decide_eq_false (by omega)) rfl ?_
              refine LW.pickF rfl rfl rfl ?_
              refine LW.nil ?_
              refine NW.then_ ?_
              refine CW.cond_false rfl ?_
              refine CW.skip ?_
              refine NW.then_ ?_
              refine CW.seq ?_
              rw [hyes (by omega) (by omega) (by omega), Option.map_map] at hrec
              have hs2 := Src.cutA' hs0 hc0 2 (by omega)
              have hs3 := (hs2.sub k)
              rw [← List.map_take] at hs3
              have hl3 : ((b.drop 2).take k).length = k := by rw [List.length_take, List.length_drop]; omega
              refine CW.region ?_
              refine LW.move rfl rfl ?_
              refine LW.move rfl rfl ?_
              refine LW.move rfl rfl ?_
              refine LW.add64 rfl rfl (by omega) (by omega) rfl ?_
              refine LW.cut (2) (2 + k) (cp0) (some _) (some _) none rfl Tryd.underlying31 FactsWal1.szt5 (fun a hf => congrArg some (hf.eval rfl)) (fun a hf => congrArg some (hf.eval rfl)) (fun a hf => rfl) (.inr ⟨_, rfl⟩) (.inr ⟨_, rfl⟩) (.inl ⟨rfl, rfl⟩) (by omega) (by omega) (by omega) (by omega) rfl ?_
              rw [show 2 + k - 2 = k by omega]
              refine LW.append (((b.drop 2).take k).map u8v) rfl rfl Tryd.underlying31 Tryd.underlying31 (.inr ⟨_, rfl⟩) FactsWal1.info5 rfl (OwnB.nil) (Take.none _) (fun _ => lenOf_slice _ _ _ _) (first_rd (hs3.rd (by repeat (first | exact Take.head _ _ | apply Take.tail))) (by rw [List.length_map, hl3, Nat.mul_one]) (fun h => (by exfalso; have := hs3.some (by rw [List.length_map]; omega); obtain ⟨x, hx⟩ := this; rw [hx] at h; cases h))) (by rw [List.length_map, hl3, Nat.mul_one]) (u8vs_one _) (by simp only [List.length_nil]; omega) (by simp only [List.length_nil]; omega) rfl ?_
              intro v5 ch5 ho5; replace ho5 := OwnB.app ho5 rfl hl3.symm; rw [List.nil_append] at ho5
              refine LW.buildSlice (vs := [_]) ⟨rfl, trivial⟩ rfl (by intro v hv; simp at hv; subst hv; exact OwnS.one ho5) Tryd.underlying36 FactsWal1.info31 rfl (by decide) (by decide) rfl ?_
              intro bs41
              refine LW.append ([v5]) rfl rfl Tryd.underlying36 Tryd.underlying36 (.inr ⟨_, rfl⟩) FactsWal1.info31 rfl (ho) (by repeat (first | exact Take.head _ _ | apply Take.tail)) (fun _ => lenOf_slice _ _ _ _) (first_rd (RdAt.row (by repeat (first | exact Take.head _ _ | apply Take.tail)) (fun j v hj => by rw [Nat.zero_add]; exact hj)) rfl (fun h => (by cases h))) (rfl) (by intro u hu; simp at hu; subst hu; exact OwnS.one ho5) (by omega) (by omega) rfl ?_
              intro v6 ch6 ho6
              refine LW.assign rfl rfl ?_
              refine LW.nil ?_
              refine NW.then_ ?_
              refine CW.region ?_
              refine LW.move rfl rfl ?_
              refine LW.move rfl rfl ?_
              refine LW.add64 rfl rfl (by omega) (by omega) rfl ?_
              refine LW.cut (2 + k) (b.length) (cp0) (some _) none none rfl Tryd.underlying31 FactsWal1.szt5 (fun a hf => congrArg some (hf.eval rfl)) (fun a hf => rfl) (fun a hf => rfl) (.inr ⟨_, rfl⟩) (.inl ⟨rfl, rfl, rfl⟩) (.inl ⟨rfl, rfl⟩) (by omega) (by omega) (by omega) (by omega) rfl ?_
              refine LW.assign rfl rfl ?_
              refine LW.nil ?_
              refine NW.block ?_
              refine NW.meet ((b.drop (2 + k), .slice (cutA (some a0) cp0 (2 + k) 1) (b.length - (2 + k)) (cp0 - (2 + k)), v6, vs ++ [v5], l ++ [(b.drop 2).take k], ch6, ch5 ++ ar)) ?j1 ?e1 ?h1
              case j1 => exact ⟨⟨RdS.cut hs0 hc0 (2 + k) (by omega), by rw [List.length_append]; exact ho6, (hrs.more (fun x hx => List.mem_append_right _ hx)).app ((RecAt.own ho5).more (fun x hx => List.mem_append_left _ hx)), by rw [hrec]; congr 1; funext x; simp, by dsimp only; rw [List.length_append, List.length_drop]; simp; omega⟩, by dsimp only; rw [List.length_drop]; omega⟩
              case e1 => repeat (first | exact Env.Le.nil _ | refine Env.Le.cons rfl ?_)
              case h1 => exact Sub.heap_cons (by repeat (first | exact Take.head _ _ | apply Take.tail)) (Sub.heap_cons (by repeat (first | exact Take.head _ _ | apply Take.tail)) (Sub.heap_cons (Take.both (by repeat (first | exact Take.head _ _ | apply Take.tail)) (by repeat (first | exact Take.head _ _ | apply Take.tail))) (Sub.heap_nil _)))
    · replace hc8 := of_decide_eq_false hc8
      try dsimp only at hc8
      have hbl : b = [] := List.eq_nil_of_length_eq_zero (by omega)
      subst hbl
      rw [recsOf_nil, Option.map_some, List.append_nil] at hrec
      refine CW.exit ?_
      refine NW.then_exit ?_
      refine NW.then_exit ?_
      refine NW.block_exit ?_
      refine NW.then_ ?_
      refine CW.seq ?_
      refine CW.region ?_
      refine LW.move rfl rfl ?_
      refine LW.assign rfl rfl ?_
      refine LW.assign rfl rfl ?_
      refine LW.nil ?_
      refine NW.then_ ?_
      refine CW.ret ?_
      refine NW.ret2 rfl rfl rfl ⟨_, .inr ⟨l, v4, vs, ch, ar, hrec, rfl, ho, hrs, rfl⟩, ?_⟩
      exact Sub.app (by repeat (first | exact Take.head _ _ | apply Take.tail)) (Sub.take (by repeat (first | exact Take.head _ _ | apply Take.tail)) (Sub.one (by repeat (first | exact Take.head _ _ | apply Take.tail))))
end
end Go.Proofs.YtpnhonhjheahhaaDoor
