/-
  Records that the caller owns: wal.records and wal.Open walked anew, with the rows of each record told.
-/
import Derived.Test.YtpnhonhjheahhaaDoorHelp5
namespace Go.Proofs.YtpnhonhjheahhaaDoor
open Go.RowKit
namespace FactsOwn4
theorem fname33 : (Tryd.f33.name == "runtime.NumGoroutine") = false := by kernel_rfl
theorem fname44 : (Tryd.f44.name == "runtime.NumGoroutine") = false := by kernel_rfl
theorem fname47 : (Tryd.f47.name == "runtime.NumGoroutine") = false := by kernel_rfl
theorem fname48 : (Tryd.f48.name == "runtime.NumGoroutine") = false := by kernel_rfl
theorem info31 : (Tryd.prog.info? 31).map (fun i => (i.zero, i.size, i.bytes)) = some (some (.slice none 0 0), 1, 24) := by kernel_rfl
theorem info5 : (Tryd.prog.info? 5).map (fun i => (i.zero, i.size, i.bytes)) = some (some (.int .u8 0), 1, 1) := by kernel_rfl
theorem ixs31 : (Tryd.prog.info? 5).map (·.size) = some 1 := by kernel_rfl
theorem ixs47 : (Tryd.prog.info? 2).map (·.size) = some 1 := by kernel_rfl
theorem mixed : Tryd.prog.follows .mixedOrders = true := by kernel_rfl
theorem one2 : oneB Tryd.prog 2 = true := by kernel_rfl
theorem one5 : oneB Tryd.prog 5 = true := by kernel_rfl
theorem szt5 : (Tryd.prog.info? 5).map (·.size) = some 1 := by kernel_rfl
end FactsOwn4
/-- Each record's value owns its rows. -/
def RecsOwn (ar : List Row) (vs : List Value) (l : List (List UInt8)) : Prop := vs.length = l.length ∧ ∃ chs : List (List Row), ar = chs.flatten ∧ chs.length = l.length ∧ ∀ i, i < l.length → OwnB (vs.getD i undef) (l.getD i []) (chs.getD i [])
theorem RecsOwn.nil : RecsOwn [] [] [] := ⟨rfl, [], rfl, rfl, fun i hi => by simp at hi⟩
theorem RecsOwn.app {ar : List Row} {vs : List Value} {l : List (List UInt8)} (k : RecsOwn ar vs l) {v : Value} {bs : List UInt8} {ch : List Row} (hv : OwnB v bs ch) : RecsOwn (ar ++ ch) (vs ++ [v]) (l ++ [bs]) := by
  obtain ⟨h1, chs, rfl, h3, h4⟩ := k
  refine ⟨by rw [List.length_append, List.length_append, h1]; rfl, chs ++ [ch], by simp, by rw [List.length_append, List.length_append, h3]; rfl, fun j hj => ?_⟩
  rw [List.length_append] at hj
  rcases Nat.lt_or_ge j l.length with h | h
  · rw [List.getD_eq_getElem?_getD, List.getD_eq_getElem?_getD, List.getD_eq_getElem?_getD, List.getElem?_append_left (by omega), List.getElem?_append_left h, List.getElem?_append_left (by omega)]
    have := h4 j h
    rwa [List.getD_eq_getElem?_getD, List.getD_eq_getElem?_getD, List.getD_eq_getElem?_getD] at this
  · obtain rfl : j = l.length := by simp at hj; omega
    rw [List.getD_eq_getElem?_getD, List.getD_eq_getElem?_getD, List.getD_eq_getElem?_getD, List.getElem?_append_right (by omega), List.getElem?_append_right (by omega), List.getElem?_append_right (by omega), h1, h3, Nat.sub_self]
    exact hv
/-- The one record of a log of one. -/
theorem RecsOwn.one {ar : List Row} {vs : List Value} {b : List UInt8} (k : RecsOwn ar vs [b]) : ∃ v, vs = [v] ∧ OwnB v b ar := by
  obtain ⟨h1, chs, rfl, h3, h4⟩ := k
  match vs, h1, chs, h3 with
  | [v], _, [c], _ =>
    have := h4 0 Nat.zero_lt_one
    exact ⟨v, rfl, by simpa using this⟩
/-- Bytes that are owned lie in a row, ahead of what room there is. -/
theorem OwnB.rowOf {v : Value} {bs : List UInt8} {ch : List Row} (o : OwnB v bs ch) (h : 0 < bs.length) : ∃ b cap sl, v = .slice (some ⟨b, 0, none⟩) bs.length cap ∧ ch = [cr b 5 (bs.map u8v ++ sl)] := by
  rcases o with ⟨_, h1, _⟩ | ⟨b, cap, sl, hv, _, _, _, hch⟩
  · omega
  · exact ⟨b, cap, sl, hv, hch⟩
theorem srcPart {W : World} {B : Nat} (b : Nat) (bs : List UInt8) (sl : List Value) : Src W B [cr b 5 (bs.map u8v ++ sl)] (some ⟨b, 0, none⟩) (bs.map u8v) := Src.row (fun j v hj => by
  rw [Nat.zero_add, List.getElem?_append_left (List.getElem?_eq_some_iff.1 hj).1]
  exact hj)
section
variable (W : World) (B : Nat)
set_option maxHeartbeats 1000000 in
theorem wal_records_own (src : List Row) (A : Option Addr) (cp : Nat) (bs : List UInt8) (hsrc : Src W B src A (bs.map u8v)) (hbc : bs.length ≤ cp) (hb : bs.length ≤ 1000000) :
    Spec Tryd.prog W B 47 [.slice A bs.length cp] src
      (fun v post => (recsOf bs = none ∧ v = .tuple #[.slice none 0 0, .bool false] ∧ post = src) ∨
        (∃ rs v4 vs ch ar, recsOf bs = some rs ∧ v = .tuple #[v4, .bool true] ∧ OwnS 31 1 v4 rs.length vs ch ∧ RecsOwn ar vs rs ∧ post = src ++ (ch ++ ar))) := by
  refine Spec.enter ([src]) Tryd.func47 rfl Tryd.ntmps47 rfl (by first | rfl | simp) (fun w0 => ?_)
  refine CW.seq ?_
  refine CW.region ?_
  refine LW.assign rfl rfl ?_
  refine LW.assign rfl rfl ?_
  refine LW.nil ?_
  refine NW.then_ ?_
  refine CW.seq ?_
  refine CW.region ?_
  refine LW.assign rfl rfl ?_
  refine LW.nil ?_
  refine NW.then_ ?_
  refine CW.seq ?_
  refine CW.block ?_
  refine CW.loop (fun st : List UInt8 × Value × Value × List Value × List (List UInt8) × List Row × List Row => [(4, st.2.2.1), (0, st.2.1)]) (fun st => [src, st.2.2.2.2.2.1, st.2.2.2.2.2.2]) (fun st => RdS W B st.2.1 st.1 src ∧ OwnS 31 1 st.2.2.1 st.2.2.2.2.1.length st.2.2.2.1 st.2.2.2.2.2.1 ∧ RecsOwn st.2.2.2.2.2.2 st.2.2.2.1 st.2.2.2.2.1 ∧ recsOf bs = (recsOf st.1).map (st.2.2.2.2.1 ++ ·) ∧ st.2.2.2.2.1.length + st.1.length ≤ bs.length) (fun st => st.1.length) (bs, .slice A bs.length cp, .slice none 0 0, [], [], [], []) ?st2_j ?st2_e ?st2_h ?st2_r
  case st2_j => exact ⟨⟨A, cp, rfl, hbc, hsrc⟩, OwnS.nil, RecsOwn.nil, by cases recsOf bs <;> simp, by simp⟩
  case st2_e => repeat (first | exact Env.Le.nil _ | refine Env.Le.cons rfl ?_)
  case st2_h => repeat (first | exact Sub.heap_nil _ | exact Sub.refl _ | refine Sub.heap_cons (Take.none _) ?_ | refine Sub.heap_cons (by repeat (first | exact Take.head _ _ | apply Take.tail)) ?_)
  case st2_r =>
    rintro ⟨b, v0, v4, vs, l, ch, ar⟩ ⟨hv0, ho, hrs, hrec, hlen⟩; dsimp only at hv0 ho hrs hrec hlen; obtain ⟨A0, cp0, rfl, hc0, hs0⟩ := hv0
    try dsimp only
    refine CW.seq ?_
    refine CW.seq ?_
    refine CW.region ?_
    refine LW.move rfl rfl ?_
    refine LW.lenSlice rfl Tryd.underlying31 rfl ?_
    refine LW.gtr _ rfl rfl rfl rfl ?_
    refine LW.nil ?_
    refine NW.then_ ?_
    refine CW.cond rfl (fun hc8 => ?_) (fun hc8 => ?_)
    · replace hc8 := of_decide_eq_true hc8
      try dsimp only at hc8
      have hbl : 0 < b.length := by omega
      obtain ⟨a0, rfl⟩ : ∃ a, A0 = some a := hs0.some (by rw [List.length_map]; omega)
      refine CW.skip ?_
      refine NW.then_ ?_
      refine CW.block ?_
      refine CW.seq ?_
      refine CW.seq ?_
      refine CW.region ?_
      refine LW.move rfl rfl ?_
      refine LW.lenSlice rfl Tryd.underlying31 rfl ?_
      refine LW.lss _ rfl rfl rfl rfl ?_
      refine LW.nil ?_
      refine NW.then_ ?_
      refine CW.cond rfl (fun hc11 => ?_) (fun hc11 => ?_)
      · replace hc11 := of_decide_eq_true hc11
        try dsimp only at hc11
        have hno := recsOf_bad (by omega) (.inl (by omega : b.length < 2))
        rw [hno, Option.map_none] at hrec
        refine CW.seq ?_
        refine CW.region ?_
        refine LW.assign rfl rfl ?_
        refine LW.assign rfl rfl ?_
        refine LW.nil ?_
        refine NW.then_ ?_
        refine CW.ret ?_
        refine NW.then_ret ?_
        refine NW.block_ret ?_
        refine NW.then_ret ?_
        refine NW.block_ret ?_
        refine NW.then_ret ?_
        refine NW.ret2 rfl rfl rfl ⟨_, .inl ⟨hrec, rfl, rfl⟩, ?_⟩
        exact Sub.one (by repeat (first | exact Take.head _ _ | apply Take.tail))
      · replace hc11 := of_decide_eq_false hc11
        try dsimp only at hc11
        have hget : ∀ i, i < b.length → (b.map u8v)[i]? = some (.int .u8 ((b.getD i 0).toNat : Int)) := fun i hi => by simp [List.getD, List.getElem?_eq_getElem hi, u8v]
        have h9a := (b.getD 0 0).toNat_lt
        have h9b := (b.getD 1 0).toNat_lt
        refine CW.skip ?_
        refine NW.then_ ?_
        refine CW.seq ?_
        refine CW.quiet FactsOwn4.mixed (by kernel_rfl) ?_
        refine QW.step (Yl.move rfl) rfl ?_
        refine QW.step (Yl.indexAt rfl rfl Tryd.underlying31 FactsOwn4.ixs31 (by omega) (by omega)) rfl ?_
        refine QW.step (Yl.loadRd (v := .int .u8 ((b.getD 0 0).toNat : Int)) rfl (hs0.rd (by repeat (first | exact Take.head _ _ | apply Take.tail))) (hget 0 (by omega)) FactsOwn4.one5) rfl ?_
        refine QW.step (Yl.convInt (((b.getD 0 0).toNat : Int)) rfl Tryd.underlying5 Tryd.underlying3 (by first | rfl | exact wr64 (by omega) (by omega) (by omega))) rfl ?_
        refine QW.step (Yl.move rfl) rfl ?_
        refine QW.step (Yl.indexAt rfl rfl Tryd.underlying31 FactsOwn4.ixs31 (by omega) (by omega)) rfl ?_
        refine QW.step (Yl.loadRd (v := .int .u8 ((b.getD 1 0).toNat : Int)) rfl (hs0.rd (by repeat (first | exact Take.head _ _ | apply Take.tail))) (hget 1 (by omega)) FactsOwn4.one5) rfl ?_
        refine QW.step (Yl.convInt (((b.getD 1 0).toNat : Int)) rfl Tryd.underlying5 Tryd.underlying3 (by first | rfl | exact wr64 (by omega) (by omega) (by omega))) rfl ?_
        refine QW.step (Yl.shl (((b.getD 1 0).toNat : Int) * 256) rfl rfl (by omega) ((by rw [show min (8 : Int).toNat IntKind.i64.bits = 8 from rfl]; exact wr64 rfl (by omega) (by omega)))) rfl ?_
        refine QW.step (Yl.or_ (((recLen b : Nat) : Int)) rfl rfl (or256 _ _)) rfl ?_
        refine QW.step (Yl.assign rfl) rfl ?_
        refine QW.nil ?_
        refine NW.then_ ?_
        refine CW.seq ?_
        refine CW.seq ?_
        have hno : b.length < 2 ∨ recLen b < 1 ∨ 1000 < recLen b ∨ b.length - 2 < recLen b → recsOf b = none := recsOf_bad (by omega)
        have hyes := fun h1 h2 h3 => recsOf_step (b := b) (by omega) h1 h2 h3
        generalize recLen b = k at hno hyes ⊢
        refine CW.region ?_
        refine LW.move rfl rfl ?_
        by_cases hk1 : k < 1
        · refine LW.lss true rfl rfl (decide_eq_true (by omega)) rfl ?_
          refine LW.move rfl rfl ?_
          refine LW.off 24 rfl rfl rfl rfl ?_
          refine LW.off 24 rfl rfl rfl rfl ?_
          refine LW.pickT rfl rfl rfl ?_
          refine LW.move rfl rfl ?_
          refine LW.off 28 rfl rfl rfl rfl ?_
          refine LW.off 28 rfl rfl rfl rfl ?_
          refine LW.off 28 rfl rfl rfl rfl ?_
          refine LW.off 28 rfl rfl rfl rfl ?_
          refine LW.off 28 rfl rfl rfl rfl ?_
          refine LW.pickT rfl rfl rfl ?_
          refine LW.nil ?_
          refine NW.then_ ?_
          refine CW.cond_true rfl ?_
          refine CW.seq ?_
          rw [hno (by omega), Option.map_none] at hrec
          refine CW.region ?_
          refine LW.assign rfl rfl ?_
          refine LW.assign rfl rfl ?_
          refine LW.nil ?_
          refine NW.then_ ?_
          refine CW.ret ?_
          refine NW.then_ret ?_
          refine NW.block_ret ?_
          refine NW.then_ret ?_
          refine NW.block_ret ?_
          refine NW.then_ret ?_
          refine NW.ret2 rfl rfl rfl ⟨_, .inl ⟨hrec, rfl, rfl⟩, ?_⟩
          exact Sub.one (by repeat (first | exact Take.head _ _ | apply Take.tail))
        · refine LW.lss false rfl rfl (decide_eq_false (by omega)) rfl ?_
          refine LW.move rfl rfl ?_
          refine LW.on 24 rfl rfl ?_
          refine LW.move rfl rfl ?_
          by_cases hk2 : 1000 < k
          · refine LW.on 24 rfl rfl ?_
            refine LW.gtr true rfl rfl (decide_eq_true (by omega)) rfl ?_
            refine LW.pickF rfl rfl rfl ?_
            refine LW.move rfl rfl ?_
            refine LW.off 28 rfl rfl rfl rfl ?_
            refine LW.off 28 rfl rfl rfl rfl ?_
            refine LW.off 28 rfl rfl rfl rfl ?_
            refine LW.off 28 rfl rfl rfl rfl ?_
            refine LW.off 28 rfl rfl rfl rfl ?_
            refine LW.pickT rfl rfl rfl ?_
            refine LW.nil ?_
            refine NW.then_ ?_
            refine CW.cond_true rfl ?_
            refine CW.seq ?_
            rw [hno (by omega), Option.map_none] at hrec
            refine CW.region ?_
            refine LW.assign rfl rfl ?_
            refine LW.assign rfl rfl ?_
            refine LW.nil ?_
            refine NW.then_ ?_
            refine CW.ret ?_
            refine NW.then_ret ?_
            refine NW.block_ret ?_
            refine NW.then_ret ?_
            refine NW.block_ret ?_
            refine NW.then_ret ?_
            refine NW.ret2 rfl rfl rfl ⟨_, .inl ⟨hrec, rfl, rfl⟩, ?_⟩
            exact Sub.one (by repeat (first | exact Take.head _ _ | apply Take.tail))
          · refine LW.on 24 rfl rfl ?_
            refine LW.gtr false rfl rfl (decide_eq_false (by omega)) rfl ?_
            refine LW.pickF rfl rfl rfl ?_
            refine LW.move rfl rfl ?_
            refine LW.on 28 rfl rfl ?_
            refine LW.move rfl rfl ?_
            refine LW.on 28 rfl rfl ?_
            refine LW.move rfl rfl ?_
            refine LW.on 28 rfl rfl ?_
            refine LW.lenSlice rfl Tryd.underlying31 rfl ?_
            refine LW.on 28 rfl rfl ?_
            refine LW.sub64 rfl rfl (by omega) (by omega) rfl ?_
            by_cases hk3 : b.length - 2 < k
            · refine LW.on 28 rfl rfl ?_
              refine LW.gtr true rfl rfl (decide_eq_true (by omega)) rfl ?_
              refine LW.pickF rfl rfl rfl ?_
              refine LW.nil ?_
              refine NW.then_ ?_
              refine CW.cond_true rfl ?_
              refine CW.seq ?_
              rw [hno (by omega), Option.map_none] at hrec
              refine CW.region ?_
              refine LW.assign rfl rfl ?_
              refine LW.assign rfl rfl ?_
              refine LW.nil ?_
              refine NW.then_ ?_
              refine CW.ret ?_
              refine NW.then_ret ?_
              refine NW.block_ret ?_
              refine NW.then_ret ?_
              refine NW.block_ret ?_
              refine NW.then_ret ?_
              refine NW.ret2 rfl rfl rfl ⟨_, .inl ⟨hrec, rfl, rfl⟩, ?_⟩
              exact Sub.one (by repeat (first | exact Take.head _ _ | apply Take.tail))
            · refine LW.on 28 rfl rfl ?_
              refine LW.gtr false rfl rfl (decide_eq_false (by omega)) rfl ?_
              refine LW.pickF rfl rfl rfl ?_
              refine LW.nil ?_
              refine NW.then_ ?_
              refine CW.cond_false rfl ?_
              refine CW.skip ?_
              refine NW.then_ ?_
              refine CW.seq ?_
              rw [hyes (by omega) (by omega) (by omega), Option.map_map] at hrec
              have hs2 := Src.cutA' hs0 hc0 2 (by omega)
              have hs3 := (hs2.sub k)
              rw [← List.map_take] at hs3
              have hl3 : ((b.drop 2).take k).length = k := by rw [List.length_take, List.length_drop]; omega
              refine CW.region ?_
              refine LW.move rfl rfl ?_
              refine LW.move rfl rfl ?_
              refine LW.move rfl rfl ?_
              refine LW.add64 rfl rfl (by omega) (by omega) rfl ?_
              refine LW.cut (2) (2 + k) (cp0) (some _) (some _) none rfl Tryd.underlying31 FactsOwn4.szt5 (fun a hf => congrArg some (hf.eval rfl)) (fun a hf => congrArg some (hf.eval rfl)) (fun a hf => rfl) (.inr ⟨_, rfl⟩) (.inr ⟨_, rfl⟩) (.inl ⟨rfl, rfl⟩) (by omega) (by omega) (by omega) (by omega) rfl ?_
              rw [show 2 + k - 2 = k by omega]
              refine LW.append (((b.drop 2).take k).map u8v) rfl rfl Tryd.underlying31 Tryd.underlying31 (.inr ⟨_, rfl⟩) FactsOwn4.info5 rfl (OwnB.nil) (Take.none _) (fun _ => lenOf_slice _ _ _ _) (first_rd (hs3.rd (by repeat (first | exact Take.head _ _ | apply Take.tail))) (by rw [List.length_map, hl3, Nat.mul_one]) (fun h => (by exfalso; have := hs3.some (by rw [List.length_map]; omega); obtain ⟨x, hx⟩ := this; rw [hx] at h; cases h))) (by rw [List.length_map, hl3, Nat.mul_one]) (u8vs_one _) (by simp only [List.length_nil]; omega) (by simp only [List.length_nil]; omega) rfl ?_
              intro v5 ch5 ho5; replace ho5 := OwnB.app ho5 rfl hl3.symm; rw [List.nil_append] at ho5
              refine LW.buildSlice (vs := [_]) ⟨rfl, trivial⟩ rfl (by intro v hv; simp at hv; subst hv; exact OwnS.one ho5) Tryd.underlying36 FactsOwn4.info31 rfl (by decide) (by decide) rfl ?_
              intro bs41
              refine LW.append ([v5]) rfl rfl Tryd.underlying36 Tryd.underlying36 (.inr ⟨_, rfl⟩) FactsOwn4.info31 rfl (ho) (by repeat (first | exact Take.head _ _ | apply Take.tail)) (fun _ => lenOf_slice _ _ _ _) (first_rd (RdAt.row (by repeat (first | exact Take.head _ _ | apply Take.tail)) (fun j v hj => by rw [Nat.zero_add]; exact hj)) rfl (fun h => (by cases h))) (rfl) (by intro u hu; simp at hu; subst hu; exact OwnS.one ho5) (by omega) (by omega) rfl ?_
              intro v6 ch6 ho6
              refine LW.assign rfl rfl ?_
              refine LW.nil ?_
              refine NW.then_ ?_
              refine CW.region ?_
              refine LW.move rfl rfl ?_
              refine LW.move rfl rfl ?_
              refine LW.add64 rfl rfl (by omega) (by omega) rfl ?_
              refine LW.cut (2 + k) (b.length) (cp0) (some _) none none rfl Tryd.underlying31 FactsOwn4.szt5 (fun a hf => congrArg some (hf.eval rfl)) (fun a hf => rfl) (fun a hf => rfl) (.inr ⟨_, rfl⟩) (.inl ⟨rfl, rfl, rfl⟩) (.inl ⟨rfl, rfl⟩) (by omega) (by omega) (by omega) (by omega) rfl ?_
              refine LW.assign rfl rfl ?_
              refine LW.nil ?_
              refine NW.block ?_
              refine NW.meet ((b.drop (2 + k), .slice (cutA (some a0) cp0 (2 + k) 1) (b.length - (2 + k)) (cp0 - (2 + k)), v6, vs ++ [v5], l ++ [(b.drop 2).take k], ch6, ar ++ ch5)) ?j1 ?e1 ?h1
              case j1 => exact ⟨⟨RdS.cut hs0 hc0 (2 + k) (by omega), by rw [List.length_append]; exact ho6, hrs.app ho5, by rw [hrec]; congr 1; funext x; simp, by dsimp only; rw [List.length_append, List.length_drop]; simp; omega⟩, by dsimp only; rw [List.length_drop]; omega⟩
              case e1 => repeat (first | exact Env.Le.nil _ | refine Env.Le.cons rfl ?_)
              case h1 => exact Sub.heap_cons (by repeat (first | exact Take.head _ _ | apply Take.tail)) (Sub.heap_cons (by repeat (first | exact Take.head _ _ | apply Take.tail)) (Sub.heap_cons (Take.both (by repeat (first | exact Take.head _ _ | apply Take.tail)) (by repeat (first | exact Take.head _ _ | apply Take.tail))) (Sub.heap_nil _)))
    · replace hc8 := of_decide_eq_false hc8
      try dsimp only at hc8
      have hbl : b = [] := List.eq_nil_of_length_eq_zero (by omega)
      subst hbl
      rw [recsOf_nil, Option.map_some, List.append_nil] at hrec
      refine CW.exit ?_
      refine NW.then_exit ?_
      refine NW.then_exit ?_
      refine NW.block_exit ?_
      refine NW.then_ ?_
      refine CW.seq ?_
      refine CW.region ?_
      refine LW.move rfl rfl ?_
      refine LW.assign rfl rfl ?_
      refine LW.assign rfl rfl ?_
      refine LW.nil ?_
      refine NW.then_ ?_
      refine CW.ret ?_
      refine NW.ret2 rfl rfl rfl ⟨_, .inr ⟨l, v4, vs, ch, ar, hrec, rfl, ho, hrs, rfl⟩, ?_⟩
      exact Sub.app (by repeat (first | exact Take.head _ _ | apply Take.tail)) (Sub.take (by repeat (first | exact Take.head _ _ | apply Take.tail)) (Sub.one (by repeat (first | exact Take.head _ _ | apply Take.tail))))
set_option maxHeartbeats 1000000 in
theorem wal_Open_own (p bn bw bl n : Nat) (s : DevS) (hs : s.Ok n) :
    Spec Tryd.prog W B 28 [.pointer (some ⟨p, 0, none⟩)] (devC p bn bw bl n s)
      (fun v post => (openL n s.N = none ∧ v = .tuple #[.pointer none, .slice none 0 0, .int .i64 10] ∧ post = devC p bn bw bl n s) ∨
        (∃ o l q v2 vs ch ar, openL n s.N = some o ∧ v = .tuple #[.pointer (some ⟨l, 0, none⟩), v2, .int .i64 0] ∧ OwnS 31 1 v2 o.recs.length vs ch ∧ RecsOwn ar vs o.recs ∧ post = ch ++ (ar ++ (logC l q p o.log ++ devC p bn bw bl n s)))) := by
  have hn0 := hs.n0
  have hn1 := hs.n1
  have hso := slot_Open W B p bn bw bl n s hs
  have hz0 := openL_none0 (n := n) (N := s.N)
  have hz1 := openL_len (n := n) (N := s.N)
  have hz2 := fun a b c d => openL_three (n := n) (N := s.N) (s := a) (a := b) (l := c) (u := d)
  have hrN : ringN n ≤ 262144 := by unfold ringN; omega
  generalize newestS s.N = x at hso hz0 hz1 hz2
  obtain ⟨s0, ns⟩ := x
  dsimp only at hso hz0 hz1
  refine Spec.enter ([devC p bn bw bl n s]) Tryd.func28 rfl Tryd.ntmps28 rfl (by first | rfl | simp) (fun w0 => ?_)
  refine CW.seq ?_
  refine CW.region ?_
  refine LW.assign rfl rfl ?_
  refine LW.assign rfl rfl ?_
  refine LW.assign rfl rfl ?_
  refine LW.nil ?_
  refine NW.then_ ?_
  refine CW.seq ?_
  refine CW.region ?_
  refine LW.move rfl rfl ?_
  refine LW.call (hso) Tryd.func33 rfl FactsOwn4.fname33 ⟨rfl, trivial⟩ (by repeat (first | exact Take.head _ _ | apply Take.tail)) rfl ?_
  rintro v post hR
  refine LW.move rfl rfl ?_
  rcases hR with ⟨he, rfl, rfl⟩ | ⟨he, q, v2, ch, rfl, ho, rfl⟩
  · refine LW.extract rfl rfl rfl ?_
    refine LW.extract rfl rfl rfl ?_
    refine LW.extract rfl rfl rfl ?_
    refine LW.assign rfl rfl ?_
    refine LW.assign rfl rfl ?_
    refine LW.assign rfl rfl ?_
    refine LW.nil ?_
    refine NW.then_ ?_
    refine CW.seq ?_
    refine CW.seq ?_
    refine CW.region ?_
    refine LW.move rfl rfl ?_
    refine LW.neq true rfl rfl (rfl) rfl ?_
    refine LW.nil ?_
    refine NW.then_ ?_
    refine CW.cond_true rfl ?_
    refine CW.seq ?_
    refine CW.region ?_
    refine LW.move rfl rfl ?_
    refine LW.assign rfl rfl ?_
    refine LW.assign rfl rfl ?_
    refine LW.assign rfl rfl ?_
    refine LW.nil ?_
    refine NW.then_ ?_
    refine CW.ret ?_
    refine NW.then_ret ?_
    refine NW.ret3 rfl rfl rfl rfl ⟨_, .inl ⟨hz0 he, rfl, rfl⟩, ?_⟩
    exact Sub.one (by repeat (first | exact Take.head _ _ | apply Take.tail))
  · refine LW.split2 (LW.split2p ?_)
    obtain ⟨A2, cp2, rfl, hA2, hc2⟩ := OwnS.val ho
    have hsrc := OwnS.src (W := W) (B := B) ho
    refine LW.extract rfl rfl rfl ?_
    refine LW.extract rfl rfl rfl ?_
    refine LW.extract rfl rfl rfl ?_
    refine LW.assign rfl rfl ?_
    refine LW.assign rfl rfl ?_
    refine LW.assign rfl rfl ?_
    refine LW.nil ?_
    refine NW.then_ ?_
    refine CW.seq ?_
    refine CW.seq ?_
    refine CW.region ?_
    refine LW.move rfl rfl ?_
    refine LW.neq false rfl rfl (rfl) rfl ?_
    refine LW.nil ?_
    refine NW.then_ ?_
    refine CW.cond_false rfl ?_
    refine CW.skip ?_
    refine NW.then_ ?_
    refine CW.seq ?_
    refine CW.seq ?_
    refine CW.quiet FactsOwn4.mixed (by kernel_rfl) ?_
    refine QW.step (Yl.move rfl) rfl ?_
    refine QW.step (Yl.lenSlice rfl Tryd.underlying47) rfl ?_
    by_cases hl3 : ns.length = 3
    · refine QW.step (Yl.neq false rfl rfl (bne_eq_false_iff_eq.2 (by omega))) rfl ?_
      refine QW.step (Yl.move rfl) rfl ?_
      refine QW.on 22 rfl rfl ?_
      obtain ⟨a, l, u, rfl⟩ : ∃ a l u, ns = [a, l, u] := by
        match ns, hl3 with
        | [a, l, u], _ => exact ⟨a, l, u, rfl⟩
      replace hz2 := hz2 s0 a l u rfl
      obtain ⟨ad, rfl⟩ : ∃ x, A2 = some x := hsrc.some (by simp)
      refine QW.step (Yl.move rfl) rfl ?_
      refine QW.on 22 rfl rfl ?_
      refine QW.step (Yl.indexAt rfl rfl Tryd.underlying47 FactsOwn4.ixs47 (by omega) (by omega)) rfl ?_
      refine QW.on 22 rfl rfl ?_
      refine QW.step (Yl.loadRd (v := .int .i64 u) rfl (hsrc.rd (by repeat (first | exact Take.head _ _ | apply Take.tail))) (rfl) FactsOwn4.one2) rfl ?_
      by_cases hu0 : u < 0
      · refine QW.on 22 rfl rfl ?_
        refine QW.step (Yl.lss true rfl rfl (decide_eq_true (by omega))) rfl ?_
        refine QW.step (Yl.pickF rfl rfl) rfl ?_
        refine QW.step (Yl.move rfl) rfl ?_
        refine QW.off 28 rfl rfl rfl rfl ?_
        refine QW.off 28 rfl rfl rfl rfl ?_
        refine QW.off 28 rfl rfl rfl rfl ?_
        refine QW.off 28 rfl rfl rfl rfl ?_
        refine QW.off 28 rfl rfl rfl rfl ?_
        refine QW.off 28 rfl rfl rfl rfl ?_
        refine QW.step (Yl.pickT rfl rfl) rfl ?_
        refine QW.nil ?_
        refine NW.then_ ?_
        refine CW.cond_true rfl ?_
        refine CW.seq ?_
        refine CW.region ?_
        refine LW.assign rfl rfl ?_
        refine LW.assign rfl rfl ?_
        refine LW.assign rfl rfl ?_
        refine LW.nil ?_
        refine NW.then_ ?_
        refine CW.ret ?_
        refine NW.then_ret ?_
        refine NW.ret3 rfl rfl rfl rfl ⟨_, .inl ⟨by rw [hz2, if_pos (.inr (.inl hu0))], rfl, rfl⟩, ?_⟩
        exact Sub.one (by repeat (first | exact Take.head _ _ | apply Take.tail))
      · refine QW.on 22 rfl rfl ?_
        refine QW.step (Yl.lss false rfl rfl (decide_eq_false (by omega))) rfl ?_
        refine QW.step (Yl.pickF rfl rfl) rfl ?_
        refine QW.step (Yl.move rfl) rfl ?_
        refine QW.on 28 rfl rfl ?_
        refine QW.step (Yl.move rfl) rfl ?_
        refine QW.on 28 rfl rfl ?_
        refine QW.step (Yl.indexAt rfl rfl Tryd.underlying47 FactsOwn4.ixs47 (by omega) (by omega)) rfl ?_
        refine QW.on 28 rfl rfl ?_
        refine QW.step (Yl.loadRd (v := .int .i64 u) rfl (hsrc.rd (by repeat (first | exact Take.head _ _ | apply Take.tail))) (rfl) FactsOwn4.one2) rfl ?_
        refine QW.on 28 rfl rfl ?_
        refine QW.step (Yl.move rfl) rfl ?_
        refine QW.on 28 rfl rfl ?_
        refine QW.call (.int .i64 (ringN n : Int)) (wal_ring W B p bn bw bl n s hn0 hn1) Tryd.func44 rfl FactsOwn4.fname44 ⟨rfl, trivial⟩ ((by repeat (first | exact Take.head _ _ | apply Take.tail))) (by rintro u post ⟨rfl, rfl⟩; exact ⟨rfl, Sub.refl _⟩) rfl ?_
        by_cases hur : (ringN n : Int) < u
        · refine QW.on 28 rfl rfl ?_
          refine QW.step (Yl.gtr true rfl rfl (decide_eq_true (by omega))) rfl ?_
          refine QW.step (Yl.pickF rfl rfl) rfl ?_
          refine QW.nil ?_
          refine NW.then_ ?_
          refine CW.cond_true rfl ?_
          refine CW.seq ?_
          refine CW.region ?_
          refine LW.assign rfl rfl ?_
          refine LW.assign rfl rfl ?_
          refine LW.assign rfl rfl ?_
          refine LW.nil ?_
          refine NW.then_ ?_
          refine CW.ret ?_
          refine NW.then_ret ?_
          refine NW.ret3 rfl rfl rfl rfl ⟨_, .inl ⟨by rw [hz2, if_pos (.inr (.inr hur))], rfl, rfl⟩, ?_⟩
          exact Sub.one (by repeat (first | exact Take.head _ _ | apply Take.tail))
        · refine QW.on 28 rfl rfl ?_
          refine QW.step (Yl.gtr false rfl rfl (decide_eq_false (by omega))) rfl ?_
          refine QW.step (Yl.pickF rfl rfl) rfl ?_
          refine QW.nil ?_
          refine NW.then_ ?_
          refine CW.cond_false rfl ?_
          refine CW.skip ?_
          refine NW.then_ ?_
          refine CW.seq ?_
          obtain ⟨m, rfl⟩ : ∃ m : Nat, u = (m : Int) := ⟨u.toNat, by omega⟩
          rw [if_neg (by omega), Int.toNat_natCast] at hz2
          refine CW.region ?_
          refine LW.move rfl rfl ?_
          refine LW.move rfl rfl ?_
          refine LW.indexAt rfl rfl Tryd.underlying47 FactsOwn4.ixs47 (by omega) (by omega) rfl ?_
          refine LW.loadRd (v := .int .i64 (m : Int)) rfl (hsrc.rd (by repeat (first | exact Take.head _ _ | apply Take.tail))) (rfl) FactsOwn4.one2 rfl ?_
          refine LW.call (wal_bytes W B p bn bw bl n s hs m (by omega)) Tryd.func48 rfl FactsOwn4.fname48 ⟨rfl, rfl, trivial⟩ (by repeat (first | exact Take.head _ _ | apply Take.tail)) rfl ?_
          rintro _ _ ⟨chb, ⟨Ab, cpb, rfl, hsb, hAb, hcb⟩, rfl⟩; refine LW.split2 ?_
          refine LW.call (wal_records_own W B chb Ab cpb (bytesC s.N m) hsb hcb (by have : (bytesC s.N m).length ≤ m := (by rw [bytesC, List.length_take]; omega); omega)) Tryd.func47 rfl FactsOwn4.fname47 ⟨rfl, trivial⟩ (by repeat (first | exact Take.head _ _ | apply Take.tail)) rfl ?_
          rintro v post hR2
          refine LW.move rfl rfl ?_
          rcases hR2 with ⟨hr, rfl, rfl⟩ | ⟨rs, v4, vs, chr, ar, hr, rfl, ho4, hrs, rfl⟩
          · refine LW.extract rfl rfl rfl ?_
            refine LW.extract rfl rfl rfl ?_
            refine LW.assign rfl rfl ?_
            refine LW.assign rfl rfl ?_
            refine LW.nil ?_
            refine NW.then_ ?_
            refine CW.seq ?_
            refine CW.seq ?_
            refine CW.region ?_
            refine LW.move rfl rfl ?_
            refine LW.not (true) rfl (rfl) rfl ?_
            refine LW.nil ?_
            refine NW.then_ ?_
            refine CW.cond_true rfl ?_
            refine CW.seq ?_
            refine CW.region ?_
            refine LW.assign rfl rfl ?_
            refine LW.assign rfl rfl ?_
            refine LW.assign rfl rfl ?_
            refine LW.nil ?_
            refine NW.then_ ?_
            refine CW.ret ?_
            refine NW.then_ret ?_
            refine NW.ret3 rfl rfl rfl rfl ⟨_, .inl ⟨by rw [hz2, hr]; rfl, rfl, rfl⟩, ?_⟩
            exact Sub.one (by repeat (first | exact Take.head _ _ | apply Take.tail))
          · refine LW.split2 (LW.split2p ?_)
            refine LW.extract rfl rfl rfl ?_
            refine LW.extract rfl rfl rfl ?_
            refine LW.assign rfl rfl ?_
            refine LW.assign rfl rfl ?_
            refine LW.nil ?_
            refine NW.then_ ?_
            refine CW.seq ?_
            refine CW.seq ?_
            refine CW.region ?_
            refine LW.move rfl rfl ?_
            refine LW.not (false) rfl (rfl) rfl ?_
            refine LW.nil ?_
            refine NW.then_ ?_
            refine CW.cond_false rfl ?_
            refine CW.skip ?_
            refine NW.then_ ?_
            refine CW.seq ?_
            refine CW.drawH [] FactsOwn4.mixed ?_
            refine AW.takes [0, 1, 2, 3, 5, 6, 8, 9, 13] 8 (by kernel_rfl) (by kernel_rfl) rfl (by repeat (first | exact PO.body | refine PO.then_ ?_ | refine PO.block ?_ | refine PO.noGoto ?_)) (fun _ s => Held.of s (by repeat (first | exact Sub.nil _ | refine Sub.cons1 (by repeat (first | exact Take.head _ _ | apply Take.tail)) ?_))) ?_
            refine TW.take rfl (Yl.move rfl) rfl ?_
            refine TW.take rfl (Yl.move rfl) rfl ?_
            refine TW.take rfl (Yl.move rfl) rfl ?_
            refine TW.take rfl (Yl.indexAt rfl rfl Tryd.underlying47 FactsOwn4.ixs47 (by omega) (by omega)) rfl ?_
            refine TW.take rfl (Yl.move rfl) rfl ?_
            refine TW.take rfl (Yl.indexAt rfl rfl Tryd.underlying47 FactsOwn4.ixs47 (by omega) (by omega)) rfl ?_
            refine TW.take rfl (Yl.move rfl) rfl ?_
            refine TW.take rfl (Yl.indexAt rfl rfl Tryd.underlying47 FactsOwn4.ixs47 (by omega) (by omega)) rfl ?_
            refine TW.take rfl (Yl.move rfl) rfl ?_
            refine TW.nil ?_
            refine AW.all [4, 7, 10] (by kernel_rfl) rfl ?_
            refine AWs.cons rfl ?_ ?_
            · refine LW.loadRd (v := .int .i64 a) rfl (hsrc.rd (by repeat (first | exact Take.head _ _ | apply Take.tail))) (rfl) FactsOwn4.one2 rfl ?_
              refine LW.nil ?_
              refine AW.back (fun _ s => Held.of s (by repeat (first | exact Sub.nil _ | refine Sub.cons1 (by repeat (first | exact Take.head _ _ | apply Take.tail)) ?_))) ?_
              refine AW.all [7, 10] (by kernel_rfl) rfl ?_
              refine AWs.cons rfl ?_ ?_
              · refine LW.loadRd (v := .int .i64 l) rfl (hsrc.rd (by repeat (first | exact Take.head _ _ | apply Take.tail))) (rfl) FactsOwn4.one2 rfl ?_
                refine LW.nil ?_
                refine AW.back (fun _ s => Held.of s (by repeat (first | exact Sub.nil _ | refine Sub.cons1 (by repeat (first | exact Take.head _ _ | apply Take.tail)) ?_))) ?_
                refine AW.act 10 (by kernel_rfl) rfl ?_
                refine LW.loadRd (v := .int .i64 (m : Int)) rfl (hsrc.rd (by repeat (first | exact Take.head _ _ | apply Take.tail))) (rfl) FactsOwn4.one2 rfl ?_
                refine LW.nil ?_
                refine AW.back (fun _ s => Held.of s (by repeat (first | exact Sub.nil _ | refine Sub.cons1 (by repeat (first | exact Take.head _ _ | apply Take.tail)) ?_))) ?_
                refine AW.takes [11] 4 (by kernel_rfl) (by kernel_rfl) rfl (by repeat (first | exact PO.body | refine PO.then_ ?_ | refine PO.block ?_ | refine PO.noGoto ?_)) (fun _ s => Held.of s (by repeat (first | exact Sub.nil _ | refine Sub.cons1 (by repeat (first | exact Take.head _ _ | apply Take.tail)) ?_))) ?_
                refine TW.take rfl (Yl.build (vs := [_, _, _, _, _]) (#[.pointer (some ⟨p, 0, none⟩), .pointer (some ⟨q, 0, none⟩), .int .i64 a, .int .i64 l, .int .i64 (m : Int), .bool false]) ⟨rfl, rfl, rfl, rfl, rfl, trivial⟩ (by kernel_rfl)) rfl ?_
                refine TW.nil ?_
                refine AW.act 12 (by kernel_rfl) rfl ?_
                refine LW.box rfl rfl ?_
                intro bb59
                refine LW.nil ?_
                refine AW.back (fun _ s => Held.of s (by repeat (first | exact Sub.nil _ | refine Sub.cons1 (by repeat (first | exact Take.head _ _ | apply Take.tail)) ?_))) ?_
                refine AW.takes [14, 15, 16] 0 (by kernel_rfl) (by kernel_rfl) rfl (by repeat (first | exact PO.body | refine PO.then_ ?_ | refine PO.block ?_ | refine PO.noGoto ?_)) (fun _ s => Held.of s (by repeat (first | exact Sub.nil _ | refine Sub.cons1 (by repeat (first | exact Take.head _ _ | apply Take.tail)) ?_))) ?_
                refine TW.take rfl (Yl.assign rfl) rfl ?_
                refine TW.take rfl (Yl.assign rfl) rfl ?_
                refine TW.take rfl (Yl.assign rfl) rfl ?_
                refine TW.nil ?_
                refine AW.done (by kernel_rfl) ?_
                refine NW.then_ ?_
                refine CW.ret ?_
                refine NW.ret3 rfl rfl rfl rfl ⟨_, .inr ⟨⟨s0, a, l, m, rs⟩, bb59, q, v4, vs, chr, ar, by rw [hz2, hr]; rfl, rfl, ho4, hrs, rfl⟩, ?_⟩
                exact Sub.app (by repeat (first | exact Take.head _ _ | apply Take.tail)) (Sub.app (by repeat (first | exact Take.head _ _ | apply Take.tail)) (Sub.take (Take.both (p := [_]) (by repeat (first | exact Take.head _ _ | apply Take.tail)) (by repeat (first | exact Take.head _ _ | apply Take.tail))) (Sub.one (by repeat (first | exact Take.head _ _ | apply Take.tail)))))
              refine AWs.cons rfl ?_ ?_
              · refine LW.loadRd (v := .int .i64 (m : Int)) rfl (hsrc.rd (by repeat (first | exact Take.head _ _ | apply Take.tail))) (rfl) FactsOwn4.one2 rfl ?_
                refine LW.nil ?_
                refine AW.back (fun _ s => Held.of s (by repeat (first | exact Sub.nil _ | refine Sub.cons1 (by repeat (first | exact Take.head _ _ | apply Take.tail)) ?_))) ?_
                refine AW.act 7 (by kernel_rfl) rfl ?_
                refine LW.loadRd (v := .int .i64 l) rfl (hsrc.rd (by repeat (first | exact Take.head _ _ | apply Take.tail))) (rfl) FactsOwn4.one2 rfl ?_
                refine LW.nil ?_
                refine AW.back (fun _ s => Held.of s (by repeat (first | exact Sub.nil _ | refine Sub.cons1 (by repeat (first | exact Take.head _ _ | apply Take.tail)) ?_))) ?_
                refine AW.takes [11] 4 (by kernel_rfl) (by kernel_rfl) rfl (by repeat (first | exact PO.body | refine PO.then_ ?_ | refine PO.block ?_ | refine PO.noGoto ?_)) (fun _ s => Held.of s (by repeat (first | exact Sub.nil _ | refine Sub.cons1 (by repeat (first | exact Take.head _ _ | apply Take.tail)) ?_))) ?_
                refine TW.take rfl (Yl.build (vs := [_, _, _, _, _]) (#[.pointer (some ⟨p, 0, none⟩), .pointer (some ⟨q, 0, none⟩), .int .i64 a, .int .i64 l, .int .i64 (m : Int), .bool false]) ⟨rfl, rfl, rfl, rfl, rfl, trivial⟩ (by kernel_rfl)) rfl ?_
                refine TW.nil ?_
                refine AW.act 12 (by kernel_rfl) rfl ?_
                refine LW.box rfl rfl ?_
                intro bb59
                refine LW.nil ?_
                refine AW.back (fun _ s => Held.of s (by repeat (first | exact Sub.nil _ | refine Sub.cons1 (by repeat (first | exact Take.head _ _ | apply Take.tail)) ?_))) ?_
                refine AW.takes [14, 15, 16] 0 (by kernel_rfl) (by kernel_rfl) rfl (by repeat (first | exact PO.body | refine PO.then_ ?_ | refine PO.block ?_ | refine PO.noGoto ?_)) (fun _ s => Held.of s (by repeat (first | exact Sub.nil _ | refine Sub.cons1 (by repeat (first | exact Take.head _ _ | apply Take.tail)) ?_))) ?_
                refine TW.take rfl (Yl.assign rfl) rfl ?_
                refine TW.take rfl (Yl.assign rfl) rfl ?_
                refine TW.take rfl (Yl.assign rfl) rfl ?_
                refine TW.nil ?_
                refine AW.done (by kernel_rfl) ?_
                refine NW.then_ ?_
                refine CW.ret ?_
                refine NW.ret3 rfl rfl rfl rfl ⟨_, .inr ⟨⟨s0, a, l, m, rs⟩, bb59, q, v4, vs, chr, ar, by rw [hz2, hr]; rfl, rfl, ho4, hrs, rfl⟩, ?_⟩
                exact Sub.app (by repeat (first | exact Take.head _ _ | apply Take.tail)) (Sub.app (by repeat (first | exact Take.head _ _ | apply Take.tail)) (Sub.take (Take.both (p := [_]) (by repeat (first | exact Take.head _ _ | apply Take.tail)) (by repeat (first | exact Take.head _ _ | apply Take.tail))) (Sub.one (by repeat (first | exact Take.head _ _ | apply Take.tail)))))
              exact AWs.nil
            refine AWs.cons rfl ?_ ?_
            · refine LW.loadRd (v := .int .i64 l) rfl (hsrc.rd (by repeat (first | exact Take.head _ _ | apply Take.tail))) (rfl) FactsOwn4.one2 rfl ?_
              refine LW.nil ?_
              refine AW.back (fun _ s => Held.of s (by repeat (first | exact Sub.nil _ | refine Sub.cons1 (by repeat (first | exact Take.head _ _ | apply Take.tail)) ?_))) ?_
              refine AW.all [4, 10] (by kernel_rfl) rfl ?_
              refine AWs.cons rfl ?_ ?_
              · refine LW.loadRd (v := .int .i64 a) rfl (hsrc.rd (by repeat (first | exact Take.head _ _ | apply Take.tail))) (rfl) FactsOwn4.one2 rfl ?_
                refine LW.nil ?_
                refine AW.back (fun _ s => Held.of s (by repeat (first | exact Sub.nil _ | refine Sub.cons1 (by repeat (first | exact Take.head _ _ | apply Take.tail)) ?_))) ?_
                refine AW.act 10 (by kernel_rfl) rfl ?_
                refine LW.loadRd (v := .int .i64 (m : Int)) rfl (hsrc.rd (by repeat (first | exact Take.head _ _ | apply Take.tail))) (rfl) FactsOwn4.one2 rfl ?_
                refine LW.nil ?_
                refine AW.back (fun _ s => Held.of s (by repeat (first | exact Sub.nil _ | refine Sub.cons1 (by repeat (first | exact Take.head _ _ | apply Take.tail)) ?_))) ?_
                refine AW.takes [11] 4 (by kernel_rfl) (by kernel_rfl) rfl (by repeat (first | exact PO.body | refine PO.then_ ?_ | refine PO.block ?_ | refine PO.noGoto ?_)) (fun _ s => Held.of s (by repeat (first | exact Sub.nil _ | refine Sub.cons1 (by repeat (first | exact Take.head _ _ | apply Take.tail)) ?_))) ?_
                refine TW.take rfl (Yl.build (vs := [_, _, _, _, _]) (#[.pointer (some ⟨p, 0, none⟩), .pointer (some ⟨q, 0, none⟩), .int .i64 a, .int .i64 l, .int .i64 (m : Int), .bool false]) ⟨rfl, rfl, rfl, rfl, rfl, trivial⟩ (by kernel_rfl)) rfl ?_
                refine TW.nil ?_
                refine AW.act 12 (by kernel_rfl) rfl ?_
                refine LW.box rfl rfl ?_
                intro bb59
                refine LW.nil ?_
                refine AW.back (fun _ s => Held.of s (by repeat (first | exact Sub.nil _ | refine Sub.cons1 (by repeat (first | exact Take.head _ _ | apply Take.tail)) ?_))) ?_
                refine AW.takes [14, 15, 16] 0 (by kernel_rfl) (by kernel_rfl) rfl (by repeat (first | exact PO.body | refine PO.then_ ?_ | refine PO.block ?_ | refine PO.noGoto ?_)) (fun _ s => Held.of s (by repeat (first | exact Sub.nil _ | refine Sub.cons1 (by repeat (first | exact Take.head _ _ | apply Take.tail)) ?_))) ?_
                refine TW.take rfl (Yl.assign rfl) rfl ?_
                refine TW.take rfl (Yl.assign rfl) rfl ?_
                refine TW.take rfl (Yl.assign rfl) rfl ?_
                refine TW.nil ?_
                refine AW.done (by kernel_rfl) ?_
                refine NW.then_ ?_
                refine CW.ret ?_
                refine NW.ret3 rfl rfl rfl rfl ⟨_, .inr ⟨⟨s0, a, l, m, rs⟩, bb59, q, v4, vs, chr, ar, by rw [hz2, hr]; rfl, rfl, ho4, hrs, rfl⟩, ?_⟩
                exact Sub.app (by repeat (first | exact Take.head _ _ | apply Take.tail)) (Sub.app (by repeat (first | exact Take.head _ _ | apply Take.tail)) (Sub.take (Take.both (p := [_]) (by repeat (first | exact Take.head _ _ | apply Take.tail)) (by repeat (first | exact Take.head _ _ | apply Take.tail))) (Sub.one (by repeat (first | exact Take.head _ _ | apply Take.tail)))))
              refine AWs.cons rfl ?_ ?_
              · refine LW.loadRd (v := .int .i64 (m : Int)) rfl (hsrc.rd (by repeat (first | exact Take.head _ _ | apply Take.tail))) (rfl) FactsOwn4.one2 rfl ?_
                refine LW.nil ?_
                refine AW.back (fun _ s => Held.of s (by repeat (first | exact Sub.nil _ | refine Sub.cons1 (by repeat (first | exact Take.head _ _ | apply Take.tail)) ?_))) ?_
                refine AW.act 4 (by kernel_rfl) rfl ?_
                refine LW.loadRd (v := .int .i64 a) rfl (hsrc.rd (by repeat (first | exact Take.head _ _ | apply Take.tail))) (rfl) FactsOwn4.one2 rfl ?_
                refine LW.nil ?_
                refine AW.back (fun _ s => Held.of s (by repeat (first | exact Sub.nil _ | refine Sub.cons1 (by repeat (first | exact Take.head _ _ | apply Take.tail)) ?_))) ?_
                refine AW.takes [11] 4 (by kernel_rfl) (by kernel_rfl) rfl (by repeat (first | exact PO.body | refine PO.then_ ?_ | refine PO.block ?_ | refine PO.noGoto ?_)) (fun _ s => Held.of s (by repeat (first | exact Sub.nil _ | refine Sub.cons1 (by repeat (first | exact Take.head _ _ | apply Take.tail)) ?_))) ?_
                refine TW.take rfl (Yl.build (vs := [_, _, _, _, _]) (#[.pointer (some ⟨p, 0, none⟩), .pointer (some ⟨q, 0, none⟩), .int .i64 a, .int .i64 l, .int .i64 (m : Int), .bool false]) ⟨rfl, rfl, rfl, rfl, rfl, trivial⟩ (by kernel_rfl)) rfl ?_
                refine TW.nil ?_
                refine AW.act 12 (by kernel_rfl) rfl ?_
                refine LW.box rfl rfl ?_
                intro bb59
                refine LW.nil ?_
                refine AW.back (fun _ s => Held.of s (by repeat (first | exact Sub.nil _ | refine Sub.cons1 (by repeat (first | exact Take.head _ _ | apply Take.tail)) ?_))) ?_
                refine AW.takes [14, 15, 16] 0 (by kernel_rfl) (by kernel_rfl) rfl (by repeat (first | exact PO.body | refine PO.then_ ?_ | refine PO.block ?_ | refine PO.noGoto ?_)) (fun _ s => Held.of s (by repeat (first | exact Sub.nil _ | refine Sub.cons1 (by repeat (first | exact Take.head _ _ | apply Take.tail)) ?_))) ?_
                refine TW.take rfl (Yl.assign rfl) rfl ?_
                refine TW.take rfl (Yl.assign rfl) rfl ?_
                refine TW.take rfl (Yl.assign rfl) rfl ?_
                refine TW.nil ?_
                refine AW.done (by kernel_rfl) ?_
                refine NW.then_ ?_
                refine CW.ret ?_
                refine NW.ret3 rfl rfl rfl rfl ⟨_, .inr ⟨⟨s0, a, l, m, rs⟩, bb59, q, v4, vs, chr, ar, by rw [hz2, hr]; rfl, rfl, ho4, hrs, rfl⟩, ?_⟩
                exact Sub.app (by repeat (first | exact Take.head _ _ | apply Take.tail)) (Sub.app (by repeat (first | exact Take.head _ _ | apply Take.tail)) (Sub.take (Take.both (p := [_]) (by repeat (first | exact Take.head _ _ | apply Take.tail)) (by repeat (first | exact Take.head _ _ | apply Take.tail))) (Sub.one (by repeat (first | exact Take.head _ _ | apply Take.tail)))))
              exact AWs.nil
            refine AWs.cons rfl ?_ ?_
            · refine LW.loadRd (v := .int .i64 (m : Int)) rfl (hsrc.rd (by repeat (first | exact Take.head _ _ | apply Take.tail))) (rfl) FactsOwn4.one2 rfl ?_
              refine LW.nil ?_
              refine AW.back (fun _ s => Held.of s (by repeat (first | exact Sub.nil _ | refine Sub.cons1 (by repeat (first | exact Take.head _ _ | apply Take.tail)) ?_))) ?_
              refine AW.all [4, 7] (by kernel_rfl) rfl ?_
              refine AWs.cons rfl ?_ ?_
              · refine LW.loadRd (v := .int .i64 a) rfl (hsrc.rd (by repeat (first | exact Take.head _ _ | apply Take.tail))) (rfl) FactsOwn4.one2 rfl ?_
                refine LW.nil ?_
                refine AW.back (fun _ s => Held.of s (by repeat (first | exact Sub.nil _ | refine Sub.cons1 (by repeat (first | exact Take.head _ _ | apply Take.tail)) ?_))) ?_
                refine AW.act 7 (by kernel_rfl) rfl ?_
                refine LW.loadRd (v := .int .i64 l) rfl (hsrc.rd (by repeat (first | exact Take.head _ _ | apply Take.tail))) (rfl) FactsOwn4.one2 rfl ?_
                refine LW.nil ?_
                refine AW.back (fun _ s => Held.of s (by repeat (first | exact Sub.nil _ | refine Sub.cons1 (by repeat (first | exact Take.head _ _ | apply Take.tail)) ?_))) ?_
                refine AW.takes [11] 4 (by kernel_rfl) (by kernel_rfl) rfl (by repeat (first | exact PO.body | refine PO.then_ ?_ | refine PO.block ?_ | refine PO.noGoto ?_)) (fun _ s => Held.of s (by repeat (first | exact Sub.nil _ | refine Sub.cons1 (by repeat (first | exact Take.head _ _ | apply Take.tail)) ?_))) ?_
                refine TW.take rfl (Yl.build (vs := [_, _, _, _, _]) (#[.pointer (some ⟨p, 0, none⟩), .pointer (some ⟨q, 0, none⟩), .int .i64 a, .int .i64 l, .int .i64 (m : Int), .bool false]) ⟨rfl, rfl, rfl, rfl, rfl, trivial⟩ (by kernel_rfl)) rfl ?_
                refine TW.nil ?_
                refine AW.act 12 (by kernel_rfl) rfl ?_
                refine LW.box rfl rfl ?_
                intro bb59
                refine LW.nil ?_
                refine AW.back (fun _ s => Held.of s (by repeat (first | exact Sub.nil _ | refine Sub.cons1 (by repeat (first | exact Take.head _ _ | apply Take.tail)) ?_))) ?_
                refine AW.takes [14, 15, 16] 0 (by kernel_rfl) (by kernel_rfl) rfl (by repeat (first | exact PO.body | refine PO.then_ ?_ | refine PO.block ?_ | refine PO.noGoto ?_)) (fun _ s => Held.of s (by repeat (first | exact Sub.nil _ | refine Sub.cons1 (by repeat (first | exact Take.head _ _ | apply Take.tail)) ?_))) ?_
                refine TW.take rfl (Yl.assign rfl) rfl ?_
                refine TW.take rfl (Yl.assign rfl) rfl ?_
                refine TW.take rfl (Yl.assign rfl) rfl ?_
                refine TW.nil ?_
                refine AW.done (by kernel_rfl) ?_
                refine NW.then_ ?_
                refine CW.ret ?_
                refine NW.ret3 rfl rfl rfl rfl ⟨_, .inr ⟨⟨s0, a, l, m, rs⟩, bb59, q, v4, vs, chr, ar, by rw [hz2, hr]; rfl, rfl, ho4, hrs, rfl⟩, ?_⟩
                exact Sub.app (by repeat (first | exact Take.head _ _ | apply Take.tail)) (Sub.app (by repeat (first | exact Take.head _ _ | apply Take.tail)) (Sub.take (Take.both (p := [_]) (by repeat (first | exact Take.head _ _ | apply Take.tail)) (by repeat (first | exact Take.head _ _ | apply Take.tail))) (Sub.one (by repeat (first | exact Take.head _ _ | apply Take.tail)))))
              refine AWs.cons rfl ?_ ?_
              · refine LW.loadRd (v := .int .i64 l) rfl (hsrc.rd (by repeat (first | exact Take.head _ _ | apply Take.tail))) (rfl) FactsOwn4.one2 rfl ?_
                refine LW.nil ?_
                refine AW.back (fun _ s => Held.of s (by repeat (first | exact Sub.nil _ | refine Sub.cons1 (by repeat (first | exact Take.head _ _ | apply Take.tail)) ?_))) ?_
                refine AW.act 4 (by kernel_rfl) rfl ?_
                refine LW.loadRd (v := .int .i64 a) rfl (hsrc.rd (by repeat (first | exact Take.head _ _ | apply Take.tail))) (rfl) FactsOwn4.one2 rfl ?_
                refine LW.nil ?_
                refine AW.back (fun _ s => Held.of s (by repeat (first | exact Sub.nil _ | refine Sub.cons1 (by repeat (first | exact Take.head _ _ | apply Take.tail)) ?_))) ?_
                refine AW.takes [11] 4 (by kernel_rfl) (by kernel_rfl) rfl (by repeat (first | exact PO.body | refine PO.then_ ?_ | refine PO.block ?_ | refine PO.noGoto ?_)) (fun _ s => Held.of s (by repeat (first | exact Sub.nil _ | refine Sub.cons1 (by repeat (first | exact Take.head _ _ | apply Take.tail)) ?_))) ?_
                refine TW.take rfl (Yl.build (vs := [_, _, _, _, _]) (#[.pointer (some ⟨p, 0, none⟩), .pointer (some ⟨q, 0, none⟩), .int .i64 a, .int .i64 l, .int .i64 (m : Int), .bool false]) ⟨rfl, rfl, rfl, rfl, rfl, trivial⟩ (by kernel_rfl)) rfl ?_
                refine TW.nil ?_
                refine AW.act 12 (by kernel_rfl) rfl ?_
                refine LW.box rfl rfl ?_
                intro bb59
                refine LW.nil ?_
                refine AW.back (fun _ s => Held.of s (by repeat (first | exact Sub.nil _ | refine Sub.cons1 (by repeat (first | exact Take.head _ _ | apply Take.tail)) ?_))) ?_
                refine AW.takes [14, 15, 16] 0 (by kernel_rfl) (by kernel_rfl) rfl (by repeat (first | exact PO.body | refine PO.then_ ?_ | refine PO.block ?_ | refine PO.noGoto ?_)) (fun _ s => Held.of s (by repeat (first | exact Sub.nil _ | refine Sub.cons1 (by repeat (first | exact Take.head _ _ | apply Take.tail)) ?_))) ?_
                refine TW.take rfl (Yl.assign rfl) rfl ?_
                refine TW.take rfl (Yl.assign rfl) rfl ?_
                refine TW.take rfl (Yl.assign rfl) rfl ?_
                refine TW.nil ?_
                refine AW.done (by kernel_rfl) ?_
                refine NW.then_ ?_
                refine CW.ret ?_
                refine NW.ret3 rfl rfl rfl rfl ⟨_, .inr ⟨⟨s0, a, l, m, rs⟩, bb59, q, v4, vs, chr, ar, by rw [hz2, hr]; rfl, rfl, ho4, hrs, rfl⟩, ?_⟩
                exact Sub.app (by repeat (first | exact Take.head _ _ | apply Take.tail)) (Sub.app (by repeat (first | exact Take.head _ _ | apply Take.tail)) (Sub.take (Take.both (p := [_]) (by repeat (first | exact Take.head _ _ | apply Take.tail)) (by repeat (first | exact Take.head _ _ | apply Take.tail))) (Sub.one (by repeat (first | exact Take.head _ _ | apply Take.tail)))))
              exact AWs.nil
            exact AWs.nil
    · refine QW.step (Yl.neq true rfl rfl (bne_iff_ne.2 (by omega))) rfl ?_
      refine QW.step (Yl.move rfl) rfl ?_
      refine QW.off 22 rfl rfl rfl rfl ?_
      refine QW.off 22 rfl rfl rfl rfl ?_
      refine QW.off 22 rfl rfl rfl rfl ?_
      refine QW.off 22 rfl rfl rfl rfl ?_
      refine QW.step (Yl.pickT rfl rfl) rfl ?_
      refine QW.step (Yl.move rfl) rfl ?_
      refine QW.off 28 rfl rfl rfl rfl ?_
      refine QW.off 28 rfl rfl rfl rfl ?_
      refine QW.off 28 rfl rfl rfl rfl ?_
      refine QW.off 28 rfl rfl rfl rfl ?_
      refine QW.off 28 rfl rfl rfl rfl ?_
      refine QW.off 28 rfl rfl rfl rfl ?_
      refine QW.step (Yl.pickT rfl rfl) rfl ?_
      refine QW.nil ?_
      refine NW.then_ ?_
      refine CW.cond_true rfl ?_
      refine CW.seq ?_
      refine CW.region ?_
      refine LW.assign rfl rfl ?_
      refine LW.assign rfl rfl ?_
      refine LW.assign rfl rfl ?_
      refine LW.nil ?_
      refine NW.then_ ?_
      refine CW.ret ?_
      refine NW.then_ret ?_
      refine NW.ret3 rfl rfl rfl rfl ⟨_, .inl ⟨hz1 hl3, rfl, rfl⟩, ?_⟩
      exact Sub.one (by repeat (first | exact Take.head _ _ | apply Take.tail))
theorem wal_Open_own_ok (p bn bw bl n : Nat) (s : DevS) (hs : s.Ok n) {g : LogS} (hg : g.Fine n) (h : LogAt s.N g) :
    Spec Tryd.prog W B 28 [.pointer (some ⟨p, 0, none⟩)] (devC p bn bw bl n s)
      (fun v post => ∃ l q v2 vs ch ar, v = .tuple #[.pointer (some ⟨l, 0, none⟩), v2, .int .i64 0] ∧ OwnS 31 1 v2 g.recs.length vs ch ∧ RecsOwn ar vs g.recs ∧ post = ch ++ (ar ++ (logC l q p g.log ++ devC p bn bw bl n s))) := by
  refine (wal_Open_own W B p bn bw bl n s hs).mono ?_
  rw [log_open hs hg h]
  rintro v post (⟨he, _⟩ | ⟨o, l, q, v2, vs, ch, ar, he, rfl, h2, h3, rfl⟩)
  · cases he
  · cases he
    exact ⟨l, q, v2, vs, ch, ar, rfl, h2, h3, rfl⟩
end
end Go.Proofs.YtpnhonhjheahhaaDoor
