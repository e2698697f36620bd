/-
  A LOG MADE AND OPENED: the contracts.
-/
import Derived.Test.YtpnhonhjheahhaaDoorWal3
namespace Go.Proofs.YtpnhonhjheahhaaDoor
open Go.RowKit
namespace FactsWal4
theorem fname32 : (Tryd.f32.name == "runtime.NumGoroutine") = false := by kernel_rfl
theorem fname33 : (Tryd.f33.name == "runtime.NumGoroutine") = false := by kernel_rfl
theorem fname43 : (Tryd.f43.name == "runtime.NumGoroutine") = false := by kernel_rfl
theorem fname44 : (Tryd.f44.name == "runtime.NumGoroutine") = false := by kernel_rfl
theorem fname47 : (Tryd.f47.name == "runtime.NumGoroutine") = false := by kernel_rfl
theorem fname48 : (Tryd.f48.name == "runtime.NumGoroutine") = false := by kernel_rfl
theorem info2 : (Tryd.prog.info? 2).map (fun i => (i.zero, i.size, i.bytes)) = some (some (.int .i64 0), 1, 8) := by kernel_rfl
theorem ixs47 : (Tryd.prog.info? 2).map (·.size) = some 1 := by kernel_rfl
theorem mixed : Tryd.prog.follows .mixedOrders = true := by kernel_rfl
theorem one2 : oneB Tryd.prog 2 = true := by kernel_rfl
end FactsWal4
structure OpenV where
  serial : Int
  area : Int
  length : Int
  used : Nat
  recs : List (List UInt8)
/-- What a log is opened as: none, or its numbers and records. -/
def openL (n : Nat) (N : Nat → List UInt8) : Option OpenV :=
  match newestS N with
  | (s, [a, l, u]) => if s = 0 ∨ u < 0 ∨ (ringN n : Int) < u then none else (recsOf (bytesC N u.toNat)).map fun rs => ⟨s, a, l, u.toNat, rs⟩
  | _ => none
def OpenV.log (o : OpenV) : LogV := ⟨o.area, o.length, o.used, o.serial, false, false⟩
section
variable (W : World) (B : Nat)
theorem wal_Make (p bn bw bl n : Nat) (s : DevS) (hs : s.Ok n) (h0 : 0 ≤ (newestS s.N).1) (h1 : (newestS s.N).1 ≤ 4611686018427387904) :
    Spec Tryd.prog W B 22 [.pointer (some ⟨p, 0, none⟩)] (devC p bn bw bl n s)
      (fun v post => ((setS n s (newestS s.N).1 [0, 0, 0]).1 = 0 ∧ ∃ l q, v = .tuple #[.pointer (some ⟨l, 0, none⟩), .int .i64 0] ∧ post = logC l q p ⟨0, 0, 0, (newestS s.N).1 + 1, false, false⟩ ++ devC p bn bw bl n (setS n s (newestS s.N).1 [0, 0, 0]).2) ∨
        ((setS n s (newestS s.N).1 [0, 0, 0]).1 ≠ 0 ∧ v = .tuple #[.pointer none, .int .i64 (setS n s (newestS s.N).1 [0, 0, 0]).1] ∧ post = devC p bn bw bl n (setS n s (newestS s.N).1 [0, 0, 0]).2)) := by
  have hn0 := hs.n0
  have hmk := fun src A cp hsrc => slot_Make W B p bn bw bl n s hs h0 h1 [0, 0, 0] (by intro n hn; simp at hn; subst hn; exact ⟨by decide, by decide⟩) (by decide) src A cp hsrc
  generalize setS n s (newestS s.N).1 [0, 0, 0] = y at hmk ⊢
  generalize (newestS s.N).1 = x at hmk ⊢
  refine Spec.enter ([devC p bn bw bl n s]) Tryd.func22 rfl Tryd.ntmps22 rfl (by first | rfl | simp) (fun w0 => ?_)
  refine CW.seq ?_
  refine CW.region ?_
  refine LW.assign rfl rfl ?_
  refine LW.assign rfl rfl ?_
  refine LW.nil ?_
  refine NW.then_ ?_
  refine CW.seq ?_
  refine CW.block ?_
  refine CW.seq ?_
  refine CW.region ?_
  refine LW.move rfl rfl ?_
  refine LW.ptrNil _ rfl Tryd.underlying27 rfl rfl ?_
  refine LW.assign rfl rfl ?_
  refine LW.nil ?_
  refine NW.then_ ?_
  refine CW.cond_false rfl ?_
  refine CW.seq ?_
  refine CW.region ?_
  refine LW.move rfl rfl ?_
  refine LW.call (dev_Sectors W B p bn bw bl n s) Tryd.func43 rfl FactsWal4.fname43 ⟨rfl, trivial⟩ (by repeat (first | exact Take.head _ _ | apply Take.tail)) rfl ?_
  rintro _ _ ⟨rfl, rfl⟩
  refine LW.lss false rfl rfl (decide_eq_false (by omega)) rfl ?_
  refine LW.assign rfl rfl ?_
  refine LW.nil ?_
  refine NW.then_ ?_
  refine CW.cond_false rfl ?_
  refine CW.skip ?_
  refine NW.block ?_
  refine NW.then_ ?_
  refine CW.seq ?_
  refine CW.region ?_
  refine LW.move rfl rfl ?_
  refine LW.buildSlice (vs := [_, _, _]) ⟨rfl, rfl, rfl, trivial⟩ rfl (by intro v hv; simp at hv; subst hv; rfl) Tryd.underlying47 FactsWal4.info2 rfl (by decide) (by decide) rfl ?_
  intro bs15
  refine LW.call (hmk [cr bs15 2 [.int .i64 0, .int .i64 0, .int .i64 0]] (some ⟨bs15, 0, none⟩) 3 (Src.row (fun j v hj => by rw [Nat.zero_add]; exact hj))) Tryd.func32 rfl FactsWal4.fname32 ⟨rfl, rfl, trivial⟩ (Take.both (by repeat (first | exact Take.head _ _ | apply Take.tail)) (by repeat (first | exact Take.head _ _ | apply Take.tail))) rfl ?_
  rintro v post hR
  rcases hR with ⟨he, q, rfl, rfl⟩ | ⟨he, rfl, rfl⟩ <;> refine LW.split2 (LW.heap ?_ (Sub.refl _))
  · refine LW.move rfl rfl ?_
    refine LW.split2p ?_
    refine LW.extract rfl rfl rfl ?_
    refine LW.extract rfl rfl rfl ?_
    refine LW.assign rfl rfl ?_
    refine LW.assign rfl rfl ?_
    refine LW.nil ?_
    refine NW.then_ ?_
    refine CW.seq ?_
    refine CW.seq ?_
    refine CW.region ?_
    refine LW.move rfl rfl ?_
    refine LW.neq false rfl rfl (rfl) rfl ?_
    refine LW.nil ?_
    refine NW.then_ ?_
    refine CW.cond_false rfl ?_
    refine CW.skip ?_
    refine NW.then_ ?_
    refine CW.seq ?_
    refine CW.region ?_
    refine LW.move rfl rfl ?_
    refine LW.move rfl rfl ?_
    refine LW.build (vs := [_, _]) (#[.pointer (some ⟨p, 0, none⟩), .pointer (some ⟨q, 0, none⟩), .int .i64 0, .int .i64 0, .int .i64 0, .bool false]) ⟨rfl, rfl, trivial⟩ (by kernel_rfl) rfl ?_
    refine LW.box rfl rfl ?_
    intro bb25
    refine LW.assign rfl rfl ?_
    refine LW.assign rfl rfl ?_
    refine LW.nil ?_
    refine NW.then_ ?_
    refine CW.ret ?_
    refine NW.ret2 rfl rfl rfl ⟨_, .inl ⟨he, bb25, q, rfl, rfl⟩, ?_⟩
    exact Sub.take (Take.both (p := [_]) (by repeat (first | exact Take.head _ _ | apply Take.tail)) (by repeat (first | exact Take.head _ _ | apply Take.tail))) (Sub.one (by repeat (first | exact Take.head _ _ | apply Take.tail)))
  · refine LW.move rfl rfl ?_
    refine LW.extract rfl rfl rfl ?_
    refine LW.extract rfl rfl rfl ?_
    refine LW.assign rfl rfl ?_
    refine LW.assign rfl rfl ?_
    refine LW.nil ?_
    refine NW.then_ ?_
    refine CW.seq ?_
    refine CW.seq ?_
    refine CW.region ?_
    refine LW.move rfl rfl ?_
    refine LW.neq true rfl rfl (bne_iff_ne.2 he) rfl ?_
    refine LW.nil ?_
    refine NW.then_ ?_
    refine CW.cond_true rfl ?_
    refine CW.seq ?_
    refine CW.region ?_
    refine LW.move rfl rfl ?_
    refine LW.assign rfl rfl ?_
    refine LW.assign rfl rfl ?_
    refine LW.nil ?_
    refine NW.then_ ?_
    refine CW.ret ?_
    refine NW.then_ret ?_
    refine NW.ret2 rfl rfl rfl ⟨_, .inr ⟨he, rfl, rfl⟩, ?_⟩
    exact Sub.one (by repeat (first | exact Take.head _ _ | apply Take.tail))

theorem openL_none0 {n : Nat} {N : Nat → List UInt8} (h : (newestS N).1 = 0) : openL n N = none := by
  unfold openL
  split
  · rename_i s a l u hq
    rw [hq] at h
    rw [if_pos (.inl h)]
  · rfl
theorem openL_len {n : Nat} {N : Nat → List UInt8} (h : (newestS N).2.length ≠ 3) : openL n N = none := by
  unfold openL
  split
  · rename_i s a l u hq
    rw [hq] at h
    simp at h
  · rfl
theorem openL_three {n : Nat} {N : Nat → List UInt8} {s a l u : Int} (h : newestS N = (s, [a, l, u])) : openL n N = if s = 0 ∨ u < 0 ∨ (ringN n : Int) < u then none else (recsOf (bytesC N u.toNat)).map fun rs => ⟨s, a, l, u.toNat, rs⟩ := by
  unfold openL
  rw [h]
set_option maxHeartbeats 1000000 in
theorem wal_Open (p bn bw bl n : Nat) (s : DevS) (hs : s.Ok n) :
    Spec Tryd.prog W B 28 [.pointer (some ⟨p, 0, none⟩)] (devC p bn bw bl n s)
      (fun v post => (openL n s.N = none ∧ v = .tuple #[.pointer none, .slice none 0 0, .int .i64 10] ∧ post = devC p bn bw bl n s) ∨
        (∃ o l q v2 vs ch ar, openL n s.N = some o ∧ v = .tuple #[.pointer (some ⟨l, 0, none⟩), v2, .int .i64 0] ∧ OwnS 31 1 v2 o.recs.length vs ch ∧ RecsAt W B ar vs o.recs ∧ post = ch ++ (ar ++ (logC l q p o.log ++ devC p bn bw bl n s)))) := by
  have hn0 := hs.n0
  have hn1 := hs.n1
  have hso := slot_Open W B p bn bw bl n s hs
  have hz0 := openL_none0 (n := n) (N := s.N)
  have hz1 := openL_len (n := n) (N := s.N)
  have hz2 := fun a b c d => openL_three (n := n) (N := s.N) (s := a) (a := b) (l := c) (u := d)
  have hrN : ringN n ≤ 262144 := by unfold ringN; omega
  generalize newestS s.N = x at hso hz0 hz1 hz2
  obtain ⟨s0, ns⟩ := x
  dsimp only at hso hz0 hz1
  refine Spec.enter ([devC p bn bw bl n s]) Tryd.func28 rfl Tryd.ntmps28 rfl (by first | rfl | simp) (fun w0 => ?_)
  refine CW.seq ?_
  refine CW.region ?_
  refine LW.assign rfl rfl ?_
  refine LW.assign rfl rfl ?_
  refine LW.assign rfl rfl ?_
  refine LW.nil ?_
  refine NW.then_ ?_
  refine CW.seq ?_
  refine CW.region ?_
  refine LW.move rfl rfl ?_
  refine LW.call (hso) Tryd.func33 rfl FactsWal4.fname33 ⟨rfl, trivial⟩ (by repeat (first | exact Take.head _ _ | apply Take.tail)) rfl ?_
  rintro v post hR
  refine LW.move rfl rfl ?_
  rcases hR with ⟨he, rfl, rfl⟩ | ⟨he, q, v2, ch, rfl, ho, rfl⟩
  · refine LW.extract rfl rfl rfl ?_
    refine LW.extract rfl rfl rfl ?_
    refine LW.extract rfl rfl rfl ?_
    refine LW.assign rfl rfl ?_
    refine LW.assign rfl rfl ?_
    refine LW.assign rfl rfl ?_
    refine LW.nil ?_
    refine NW.then_ ?_
    refine CW.seq ?_
    refine CW.seq ?_
    refine CW.region ?_
    refine LW.move rfl rfl ?_
    refine LW.neq true rfl rfl (rfl) rfl ?_
    refine LW.nil ?_
    refine NW.then_ ?_
    refine CW.cond_true rfl ?_
    refine CW.seq ?_
    refine CW.region ?_
    refine LW.move rfl rfl ?_
    refine LW.assign rfl rfl ?_
    refine LW.assign rfl rfl ?_
    refine LW.assign rfl rfl ?_
    refine LW.nil ?_
    refine NW.then_ ?_
    refine CW.ret ?_
    refine NW.then_ret ?_
    refine NW.ret3 rfl rfl rfl rfl ⟨_, .inl ⟨hz0 he, rfl, rfl⟩, ?_⟩
    exact Sub.one (by repeat (first | exact Take.head _ _ | apply Take.tail))
  · refine LW.split2 (LW.split2p ?_)
    obtain ⟨A2, cp2, rfl, hA2, hc2⟩ := OwnS.val ho
    have hsrc := OwnS.src (W := W) (B := B) ho
    refine LW.extract rfl rfl rfl ?_
    refine LW.extract rfl rfl rfl ?_
    refine LW.extract rfl rfl rfl ?_
    refine LW.assign rfl rfl ?_
    refine LW.assign rfl rfl ?_
    refine LW.assign rfl rfl ?_
    refine LW.nil ?_
    refine NW.then_ ?_
    refine CW.seq ?_
    refine CW.seq ?_
    refine CW.region ?_
    refine LW.move rfl rfl ?_
    refine LW.neq false rfl rfl (rfl) rfl ?_
    refine LW.nil ?_
    refine NW.then_ ?_
    refine CW.cond_false rfl ?_
    refine CW.skip ?_
    refine NW.then_ ?_
    refine CW.seq ?_
    refine CW.seq ?_
    refine CW.quiet FactsWal4.mixed (by kernel_rfl) ?_
    refine QW.step (Yl.move rfl) rfl ?_
    refine QW.step (Yl.lenSlice rfl Tryd.underlying47) rfl ?_
    by_cases hl3 : ns.length = 3
    · refine QW.step (Yl.neq false rfl rfl (bne_eq_false_iff_eq.2 (by omega))) rfl ?_
      refine QW.step (Yl.move rfl) rfl ?_
      refine QW.on 22 rfl rfl ?_
      obtain ⟨a, l, u, rfl⟩ : ∃ a l u, ns = [a, l, u] := by
        match ns, hl3 with
        | [a, l, u], _ => exact ⟨a, l, u, rfl⟩
      replace hz2 := hz2 s0 a l u rfl
      obtain ⟨ad, rfl⟩ : ∃ x, A2 = some x := hsrc.some (by simp)
      refine QW.step (Yl.move rfl) rfl ?_
      refine QW.on 22 rfl rfl ?_
      refine QW.step (Yl.indexAt rfl rfl Tryd.underlying47 FactsWal4.ixs47 (by omega) (by omega)) rfl ?_
      refine QW.on 22 rfl rfl ?_
      refine QW.step (Yl.loadRd (v := .int .i64 u) rfl (hsrc.rd (by repeat (first | exact Take.head _ _ | apply Take.tail))) (rfl) FactsWal4.one2) rfl ?_
      by_cases hu0 : u < 0
      · refine QW.on 22 rfl rfl ?_
        refine QW.step (Yl.lss true rfl rfl (decide_eq_true (by omega))) rfl ?_
        refine QW.step (Yl.pickF rfl rfl) rfl ?_
        refine QW.step (Yl.move rfl) rfl ?_
        refine QW.off 28 rfl rfl rfl rfl ?_
        refine QW.off 28 rfl rfl rfl rfl ?_
        refine QW.off 28 rfl rfl rfl rfl ?_
        refine QW.off 28 rfl rfl rfl rfl ?_
        refine QW.off 28 rfl rfl rfl rfl ?_
        refine QW.off 28 rfl rfl rfl rfl ?_
        refine QW.step (Yl.pickT rfl rfl) rfl ?_
        refine QW.nil ?_
        refine NW.then_ ?_
        refine CW.cond_true rfl ?_
        refine CW.seq ?_
        refine CW.region ?_
        refine LW.assign rfl rfl ?_
        refine LW.assign rfl rfl ?_
        refine LW.assign rfl rfl ?_
        refine LW.nil ?_
        refine NW.then_ ?_
        refine CW.ret ?_
        refine NW.then_ret ?_
        refine NW.ret3 rfl rfl rfl rfl ⟨_, .inl ⟨by rw [hz2, if_pos (.inr (.inl hu0))], rfl, rfl⟩, ?_⟩
        exact Sub.one (by repeat (first | exact Take.head _ _ | apply Take.tail))
      · refine QW.on 22 rfl rfl ?_
        refine QW.step (Yl.lss false rfl rfl (decide_eq_false (by omega))) rfl ?_
        refine QW.step (Yl.pickF rfl rfl) rfl ?_
        refine QW.step (Yl.move rfl) rfl ?_
        refine QW.on 28 rfl rfl ?_
        refine QW.step (Yl.move rfl) rfl ?_
        refine QW.on 28 rfl rfl ?_
        refine QW.step (Yl.indexAt rfl rfl Tryd.underlying47 FactsWal4.ixs47 (by omega) (by omega)) rfl ?_
        refine QW.on 28 rfl rfl ?_
        refine QW.step (Yl.loadRd (v := .int .i64 u) rfl (hsrc.rd (by repeat (first | exact Take.head _ _ | apply Take.tail))) (rfl) FactsWal4.one2) rfl ?_
        refine QW.on 28 rfl rfl ?_
        refine QW.step (Yl.move rfl) rfl ?_
        refine QW.on 28 rfl rfl ?_
        refine QW.call (.int .i64 (ringN n : Int)) (wal_ring W B p bn bw bl n s hn0 hn1) Tryd.func44 rfl FactsWal4.fname44 ⟨rfl, trivial⟩ ((by repeat (first | exact Take.head _ _ | apply Take.tail))) (by rintro u post ⟨rfl, rfl⟩; exact ⟨rfl, Sub.refl _⟩) rfl ?_
        by_cases hur : (ringN n : Int) < u
        · refine QW.on 28 rfl rfl ?_
          refine QW.step (Yl.gtr true rfl rfl (decide_eq_true (by omega))) rfl ?_
          refine QW.step (Yl.pickF rfl rfl) rfl ?_
          refine QW.nil ?_
          refine NW.then_ ?_
          refine CW.cond_true rfl ?_
          refine CW.seq ?_
          refine CW.region ?_
          refine LW.assign rfl rfl ?_
          refine LW.assign rfl rfl ?_
          refine LW.assign rfl rfl ?_
          refine LW.nil ?_
          refine NW.then_ ?_
          refine CW.ret ?_
          refine NW.then_ret ?_
          refine NW.ret3 rfl rfl rfl rfl ⟨_, .inl ⟨by rw [hz2, if_pos (.inr (.inr hur))], rfl, rfl⟩, ?_⟩
          exact Sub.one (by repeat (first | exact Take.head _ _ | apply Take.tail))
        · refine QW.on 28 rfl rfl ?_
          refine QW.step (Yl.gtr false rfl rfl (decide_eq_false (by omega))) rfl ?_
          refine QW.step (Yl.pickF rfl rfl) rfl ?_
          refine QW.nil ?_
          refine NW.then_ ?_
          refine CW.cond_false rfl ?_
          refine CW.skip ?_
          refine NW.then_ ?_
          refine CW.seq ?_
          obtain ⟨m, rfl⟩ : ∃ m : Nat, u = (m : Int) := ⟨u.toNat, by omega⟩
          rw [if_neg (by omega), Int.toNat_natCast] at hz2
          refine CW.region ?_
          refine LW.move rfl rfl ?_
          refine LW.move rfl rfl ?_
          refine LW.indexAt rfl rfl Tryd.underlying47 FactsWal4.ixs47 (by omega) (by omega) rfl ?_
          refine LW.loadRd (v := .int .i64 (m : Int)) rfl (hsrc.rd (by repeat (first | exact Take.head _ _ | apply Take.tail))) (rfl) FactsWal4.one2 rfl ?_
          refine LW.call (wal_bytes W B p bn bw bl n s hs m (by omega)) Tryd.func48 rfl FactsWal4.fname48 ⟨rfl, rfl, trivial⟩ (by repeat (first | exact Take.head _ _ | apply Take.tail)) rfl ?_
          rintro _ _ ⟨chb, ⟨Ab, cpb, rfl, hsb, hAb, hcb⟩, rfl⟩; refine LW.split2 ?_
          refine LW.call (wal_records W B chb Ab cpb (bytesC s.N m) hsb hcb (by have : (bytesC s.N m).length ≤ m := (by rw [bytesC, List.length_take]; omega); omega)) Tryd.func47 rfl FactsWal4.fname47 ⟨rfl, trivial⟩ (by repeat (first | exact Take.head _ _ | apply Take.tail)) rfl ?_
          rintro v post hR2
          refine LW.move rfl rfl ?_
          rcases hR2 with ⟨hr, rfl, rfl⟩ | ⟨rs, v4, vs, chr, ar, hr, rfl, ho4, hrs, rfl⟩
          · refine LW.extract rfl rfl rfl ?_
            refine LW.extract rfl rfl rfl ?_
            refine LW.assign rfl rfl ?_
            refine LW.assign rfl rfl ?_
            refine LW.nil ?_
            refine NW.then_ ?_
            refine CW.seq ?_
            refine CW.seq ?_
            refine CW.region ?_
            refine LW.move rfl rfl ?_
            refine LW.not (true) rfl (rfl) rfl ?_
            refine LW.nil ?_
            refine NW.then_ ?_
            refine CW.cond_true rfl ?_
            refine CW.seq ?_
            refine CW.region ?_
            refine LW.assign rfl rfl ?_
            refine LW.assign rfl rfl ?_
            refine LW.assign rfl rfl ?_
            refine LW.nil ?_
            refine NW.then_ ?_
            refine CW.ret ?_
            refine NW.then_ret ?_
            refine NW.ret3 rfl rfl rfl rfl ⟨_, .inl ⟨by rw [hz2, hr]; rfl, rfl, rfl⟩, ?_⟩
            exact Sub.one (by repeat (first | exact Take.head _ _ | apply Take.tail))
          · refine LW.split2 (LW.split2p ?_)
            refine LW.extract rfl rfl rfl ?_
            refine LW.extract rfl rfl rfl ?_
            refine LW.assign rfl rfl ?_
            refine LW.assign rfl rfl ?_
            refine LW.nil ?_
            refine NW.then_ ?_
            refine CW.seq ?_
            refine CW.seq ?_
            refine CW.region ?_
            refine LW.move rfl rfl ?_
            refine LW.not (false) rfl (rfl) rfl ?_
            refine LW.nil ?_
            refine NW.then_ ?_
            refine CW.cond_false rfl ?_
            refine CW.skip ?_
            refine NW.then_ ?_
            refine CW.seq ?_
            refine CW.drawH [] FactsWal4.mixed ?_
            refine AW.takes [0, 1, 2, 3, 5, 6, 8, 9, 13] 8 (by kernel_rfl) (by kernel_rfl) rfl (by repeat (first | exact PO.body | refine PO.then_ ?_ | refine PO.block ?_ | refine PO.noGoto ?_)) (fun _ s => Held.of s (by repeat (first | exact Sub.nil _ | refine Sub.cons1 (by repeat (first | exact Take.head _ _ | apply Take.tail)) ?_))) ?_
            refine TW.take rfl (Yl.move rfl) rfl ?_
            refine TW.take rfl (Yl.move rfl) rfl ?_
            refine TW.take rfl (Yl.move rfl) rfl ?_
            refine TW.take rfl (Yl.indexAt rfl rfl Tryd.underlying47 FactsWal4.ixs47 (by omega) (by omega)) rfl ?_
            refine TW.take rfl (Yl.move rfl) rfl ?_
            refine TW.take rfl (Yl.indexAt rfl rfl Tryd.underlying47 FactsWal4.ixs47 (by omega) (by omega)) rfl ?_
            refine TW.take rfl (Yl.move rfl) rfl ?_
            refine TW.take rfl (Yl.indexAt rfl rfl Tryd.underlying47 FactsWal4.ixs47 (by omega) (by omega)) rfl ?_
            refine TW.take rfl (Yl.move rfl) rfl ?_
            refine TW.nil ?_
            refine AW.all [4, 7, 10] (by kernel_rfl) rfl ?_
            refine AWs.cons rfl ?_ ?_
            · refine LW.loadRd (v := .int .i64 a) rfl (hsrc.rd (by repeat (first | exact Take.head _ _ | apply Take.tail))) (rfl) FactsWal4.one2 rfl ?_
              refine LW.nil ?_
              refine AW.back (fun _ s => Held.of s (by repeat (first | exact Sub.nil _ | refine Sub.cons1 (by repeat (first | exact Take.head _ _ | apply Take.tail)) ?_))) ?_
              refine AW.all [7, 10] (by kernel_rfl) rfl ?_
              refine AWs.cons rfl ?_ ?_
              · refine LW.loadRd (v := .int .i64 l) rfl (hsrc.rd (by repeat (first | exact Take.head _ _ | apply Take.tail))) (rfl) FactsWal4.one2 rfl ?_
                refine LW.nil ?_
                refine AW.back (fun _ s => Held.of s (by repeat (first | exact Sub.nil _ | refine Sub.cons1 (by repeat (first | exact Take.head _ _ | apply Take.tail)) ?_))) ?_
                refine AW.act 10 (by kernel_rfl) rfl ?_
                refine LW.loadRd (v := .int .i64 (m : Int)) rfl (hsrc.rd (by repeat (first | exact Take.head _ _ | apply Take.tail))) (rfl) FactsWal4.one2 rfl ?_
                refine LW.nil ?_
                refine AW.back (fun _ s => Held.of s (by repeat (first | exact Sub.nil _ | refine Sub.cons1 (by repeat (first | exact Take.head _ _ | apply Take.tail)) ?_))) ?_
                refine AW.takes [11] 4 (by kernel_rfl) (by kernel_rfl) rfl (by repeat (first | exact PO.body | refine PO.then_ ?_ | refine PO.block ?_ | refine PO.noGoto ?_)) (fun _ s => Held.of s (by repeat (first | exact Sub.nil _ | refine Sub.cons1 (by repeat (first | exact Take.head _ _ | apply Take.tail)) ?_))) ?_
                refine TW.take rfl (Yl.build (vs := [_, _, _, _, _]) (#[.pointer (some ⟨p, 0, none⟩), .pointer (some ⟨q, 0, none⟩), .int .i64 a, .int .i64 l, .int .i64 (m : Int), .bool false]) ⟨rfl, rfl, rfl, rfl, rfl, trivial⟩ (by kernel_rfl)) rfl ?_
                refine TW.nil ?_
                refine AW.act 12 (by kernel_rfl) rfl ?_
                refine LW.box rfl rfl ?_
                intro bb59
                refine LW.nil ?_
                refine AW.back (fun _ s => Held.of s (by repeat (first | exact Sub.nil _ | refine Sub.cons1 (by repeat (first | exact Take.head _ _ | apply Take.tail)) ?_))) ?_
                refine AW.takes [14, 15, 16] 0 (by kernel_rfl) (by kernel_rfl) rfl (by repeat (first | exact PO.body | refine PO.then_ ?_ | refine PO.block ?_ | refine PO.noGoto ?_)) (fun _ s => Held.of s (by repeat (first | exact Sub.nil _ | refine Sub.cons1 (by repeat (first | exact Take.head _ _ | apply Take.tail)) ?_))) ?_
                refine TW.take rfl (Yl.assign rfl) rfl ?_
                refine TW.take rfl (Yl.assign rfl) rfl ?_
                refine TW.take rfl (Yl.assign rfl) rfl ?_
                refine TW.nil ?_
                refine AW.done (by kernel_rfl) ?_
                refine NW.then_ ?_
                refine CW.ret ?_
                refine NW.ret3 rfl rfl rfl rfl ⟨_, .inr ⟨⟨s0, a, l, m, rs⟩, bb59, q, v4, vs, chr, ar, by rw [hz2, hr]; rfl, rfl, ho4, hrs, rfl⟩, ?_⟩
                exact Sub.app (by repeat (first | exact Take.head _ _ | apply Take.tail)) (Sub.app (by repeat (first | exact Take.head _ _ | apply Take.tail)) (Sub.take (Take.both (p := [_]) (by repeat (first | exact Take.head _ _ | apply Take.tail)) (by repeat (first | exact Take.head _ _ | apply Take.tail))) (Sub.one (by repeat (first | exact Take.head _ _ | apply Take.tail)))))
              refine AWs.cons rfl ?_ ?_
              · refine LW.loadRd (v := .int .i64 (m : Int)) rfl (hsrc.rd (by repeat (first | exact Take.head _ _ | apply Take.tail))) (rfl) FactsWal4.one2 rfl ?_
                refine LW.nil ?_
                refine AW.back (fun _ s => Held.of s (by repeat (first | exact Sub.nil _ | refine Sub.cons1 (by repeat (first | exact Take.head _ _ | apply Take.tail)) ?_))) ?_
                refine AW.act 7 (by kernel_rfl) rfl ?_
                refine LW.loadRd (v := .int .i64 l) rfl (hsrc.rd (by repeat (first | exact Take.head _ _ | apply Take.tail))) (rfl) FactsWal4.one2 rfl ?_
                refine LW.nil ?_
                refine AW.back (fun _ s => Held.of s (by repeat (first | exact Sub.nil _ | refine Sub.cons1 (by repeat (first | exact Take.head _ _ | apply Take.tail)) ?_))) ?_
                refine AW.takes [11] 4 (by kernel_rfl) (by kernel_rfl) rfl (by repeat (first | exact PO.body | refine PO.then_ ?_ | refine PO.block ?_ | refine PO.noGoto ?_)) (fun _ s => Held.of s (by repeat (first | exact Sub.nil _ | refine Sub.cons1 (by repeat (first | exact Take.head _ _ | apply Take.tail)) ?_))) ?_
                refine TW.take rfl (Yl.build (vs := [_, _, _, _, _]) (#[.pointer (some ⟨p, 0, none⟩), .pointer (some ⟨q, 0, none⟩), .int .i64 a, .int .i64 l, .int .i64 (m : Int), .bool false]) ⟨rfl, rfl, rfl, rfl, rfl, trivial⟩ (by kernel_rfl)) rfl ?_
                refine TW.nil ?_
                refine AW.act 12 (by kernel_rfl) rfl ?_
                refine LW.box rfl rfl ?_
                intro bb59
                refine LW.nil ?_
                refine AW.back (fun _ s => Held.of s (by repeat (first | exact Sub.nil _ | refine Sub.cons1 (by repeat (first | exact Take.head _ _ | apply Take.tail)) ?_))) ?_
                refine AW.takes [14, 15, 16] 0 (by kernel_rfl) (by kernel_rfl) rfl (by repeat (first | exact PO.body | refine PO.then_ ?_ | refine PO.block ?_ | refine PO.noGoto ?_)) (fun _ s => Held.of s (by repeat (first | exact Sub.nil _ | refine Sub.cons1 (by repeat (first | exact Take.head _ _ | apply Take.tail)) ?_))) ?_
                refine TW.take rfl (Yl.assign rfl) rfl ?_
                refine TW.take rfl (Yl.assign rfl) rfl ?_
                refine TW.take rfl (Yl.assign rfl) rfl ?_
                refine TW.nil ?_
                refine AW.done (by kernel_rfl) ?_
                refine NW.then_ ?_
                refine CW.ret ?_
                refine NW.ret3 rfl rfl rfl rfl ⟨_, .inr ⟨⟨s0, a, l, m, rs⟩, bb59, q, v4, vs, chr, ar, by rw [hz2, hr]; rfl, rfl, ho4, hrs, rfl⟩, ?_⟩
                exact Sub.app (by repeat (first | exact Take.head _ _ | apply Take.tail)) (Sub.app (by repeat (first | exact Take.head _ _ | apply Take.tail)) (Sub.take (Take.both (p := [_]) (by repeat (first | exact Take.head _ _ | apply Take.tail)) (by repeat (first | exact Take.head _ _ | apply Take.tail))) (Sub.one (by repeat (first | exact Take.head _ _ | apply Take.tail)))))
              exact AWs.nil
            refine AWs.cons rfl ?_ ?_
            · refine LW.loadRd (v := .int .i64 l) rfl (hsrc.rd (by repeat (first | exact Take.head _ _ | apply Take.tail))) (rfl) FactsWal4.one2 rfl ?_
              refine LW.nil ?_
              refine AW.back (fun _ s => Held.of s (by repeat (first | exact Sub.nil _ | refine Sub.cons1 (by repeat (first | exact Take.head _ _ | apply Take.tail)) ?_))) ?_
              refine AW.all [4, 10] (by kernel_rfl) rfl ?_
              refine AWs.cons rfl ?_ ?_
              · refine LW.loadRd (v := .int .i64 a) rfl (hsrc.rd (by repeat (first | exact Take.head _ _ | apply Take.tail))) (rfl) FactsWal4.one2 rfl ?_
                refine LW.nil ?_
                refine AW.back (fun _ s => Held.of s (by repeat (first | exact Sub.nil _ | refine Sub.cons1 (by repeat (first | exact Take.head _ _ | apply Take.tail)) ?_))) ?_
                refine AW.act 10 (by kernel_rfl) rfl ?_
                refine LW.loadRd (v := .int .i64 (m : Int)) rfl (hsrc.rd (by repeat (first | exact Take.head _ _ | apply Take.tail))) (rfl) FactsWal4.one2 rfl ?_
                refine LW.nil ?_
                refine AW.back (fun _ s => Held.of s (by repeat (first | exact Sub.nil _ | refine Sub.cons1 (by repeat (first | exact Take.head _ _ | apply Take.tail)) ?_))) ?_
                refine AW.takes [11] 4 (by kernel_rfl) (by kernel_rfl) rfl (by repeat (first | exact PO.body | refine PO.then_ ?_ | refine PO.block ?_ | refine PO.noGoto ?_)) (fun _ s => Held.of s (by repeat (first | exact Sub.nil _ | refine Sub.cons1 (by repeat (first | exact Take.head _ _ | apply Take.tail)) ?_))) ?_
                refine TW.take rfl (Yl.build (vs := [_, _, _, _, _]) (#[.pointer (some ⟨p, 0, none⟩), .pointer (some ⟨q, 0, none⟩), .int .i64 a, .int .i64 l, .int .i64 (m : Int), .bool false]) ⟨rfl, rfl, rfl, rfl, rfl, trivial⟩ (by kernel_rfl)) rfl ?_
                refine TW.nil ?_
                refine AW.act 12 (by kernel_rfl) rfl ?_
                refine LW.box rfl rfl ?_
                intro bb59
                refine LW.nil ?_
                refine AW.back (fun _ s => Held.of s (by repeat (first | exact Sub.nil _ | refine Sub.cons1 (by repeat (first | exact Take.head _ _ | apply Take.tail)) ?_))) ?_
                refine AW.takes [14, 15, 16] 0 (by kernel_rfl) (by kernel_rfl) rfl (by repeat (first | exact PO.body | refine PO.then_ ?_ | refine PO.block ?_ | refine PO.noGoto ?_)) (fun _ s => Held.of s (by repeat (first | exact Sub.nil _ | refine Sub.cons1 (by repeat (first | exact Take.head _ _ | apply Take.tail)) ?_))) ?_
                refine TW.take rfl (Yl.assign rfl) rfl ?_
                refine TW.take rfl (Yl.assign rfl) rfl ?_
                refine TW.take rfl (Yl.assign rfl) rfl ?_
                refine TW.nil ?_
                refine AW.done (by kernel_rfl) ?_
                refine NW.then_ ?_
                refine CW.ret ?_
                refine NW.ret3 rfl rfl rfl rfl ⟨_, .inr ⟨⟨s0, a, l, m, rs⟩, bb59, q, v4, vs, chr, ar, by rw [hz2, hr]; rfl, rfl, ho4, hrs, rfl⟩, ?_⟩
                exact Sub.app (by repeat (first | exact Take.head _ _ | apply Take.tail)) (Sub.app (by repeat (first | exact Take.head _ _ | apply Take.tail)) (Sub.take (Take.both (p := [_]) (by repeat (first | exact Take.head _ _ | apply Take.tail)) (by repeat (first | exact Take.head _ _ | apply Take.tail))) (Sub.one (by repeat (first | exact Take.head _ _ | apply Take.tail)))))
              refine AWs.cons rfl ?_ ?_
              · refine LW.loadRd (v := .int .i64 (m : Int)) rfl (hsrc.rd (by repeat (first | exact Take.head _ _ | apply Take.tail))) (rfl) FactsWal4.one2 rfl ?_
                refine LW.nil ?_
                refine AW.back (fun _ s => Held.of s (by repeat (first | exact Sub.nil _ | refine Sub.cons1 (by repeat (first | exact Take.head _ _ | apply Take.tail)) ?_))) ?_
                refine AW.act 4 (by kernel_rfl) rfl ?_
                refine LW.loadRd (v := .int .i64 a) rfl (hsrc.rd (by repeat (first | exact Take.head _ _ | apply Take.tail))) (rfl) FactsWal4.one2 rfl ?_
                refine LW.nil ?_
                refine AW.back (fun _ s => Held.of s (by repeat (first | exact Sub.nil _ | refine Sub.cons1 (by repeat (first | exact Take.head _ _ | apply Take.tail)) ?_))) ?_
                refine AW.takes [11] 4 (by kernel_rfl) (by kernel_rfl) rfl (by repeat (first | exact PO.body | refine PO.then_ ?_ | refine PO.block ?_ | refine PO.noGoto ?_)) (fun _ s => Held.of s (by repeat (first | exact Sub.nil _ | refine Sub.cons1 (by repeat (first | exact Take.head _ _ | apply Take.tail)) ?_))) ?_
                refine TW.take rfl (Yl.build (vs := [_, _, _, _, _]) (#[.pointer (some ⟨p, 0, none⟩), .pointer (some ⟨q, 0, none⟩), .int .i64 a, .int .i64 l, .int .i64 (m : Int), .bool false]) ⟨rfl, rfl, rfl, rfl, rfl, trivial⟩ (by kernel_rfl)) rfl ?_
                refine TW.nil ?_
                refine AW.act 12 (by kernel_rfl) rfl ?_
                refine LW.box rfl rfl ?_
                intro bb59
                refine LW.nil ?_
                refine AW.back (fun _ s => Held.of s (by repeat (first | exact Sub.nil _ | refine Sub.cons1 (by repeat (first | exact Take.head _ _ | apply Take.tail)) ?_))) ?_
                refine AW.takes [14, 15, 16] 0 (by kernel_rfl) (by kernel_rfl) rfl (by repeat (first | exact PO.body | refine PO.then_ ?_ | refine PO.block ?_ | refine PO.noGoto ?_)) (fun _ s => Held.of s (by repeat (first | exact Sub.nil _ | refine Sub.cons1 (by repeat (first | exact Take.head _ _ | apply Take.tail)) ?_))) ?_
                refine TW.take rfl (Yl.assign rfl) rfl ?_
                refine TW.take rfl (Yl.assign rfl) rfl ?_
                refine TW.take rfl (Yl.assign rfl) rfl ?_
                refine TW.nil ?_
                refine AW.done (by kernel_rfl) ?_
                refine NW.then_ ?_
                refine CW.ret ?_
                refine NW.ret3 rfl rfl rfl rfl ⟨_, .inr ⟨⟨s0, a, l, m, rs⟩, bb59, q, v4, vs, chr, ar, by rw [hz2, hr]; rfl, rfl, ho4, hrs, rfl⟩, ?_⟩
                exact Sub.app (by repeat (first | exact Take.head _ _ | apply Take.tail)) (Sub.app (by repeat (first | exact Take.head _ _ | apply Take.tail)) (Sub.take (Take.both (p := [_]) (by repeat (first | exact Take.head _ _ | apply Take.tail)) (by repeat (first | exact Take.head _ _ | apply Take.tail))) (Sub.one (by repeat (first | exact Take.head _ _ | apply Take.tail)))))
              exact AWs.nil
            refine AWs.cons rfl ?_ ?_
            · refine LW.loadRd (v := .int .i64 (m : Int)) rfl (hsrc.rd (by repeat (first | exact Take.head _ _ | apply Take.tail))) (rfl) FactsWal4.one2 rfl ?_
              refine LW.nil ?_
              refine AW.back (fun _ s => Held.of s (by repeat (first | exact Sub.nil _ | refine Sub.cons1 (by repeat (first | exact Take.head _ _ | apply Take.tail)) ?_))) ?_
              refine AW.all [4, 7] (by kernel_rfl) rfl ?_
              refine AWs.cons rfl ?_ ?_
              · refine LW.loadRd (v := .int .i64 a) rfl (hsrc.rd (by repeat (first | exact Take.head _ _ | apply Take.tail))) (rfl) FactsWal4.one2 rfl ?_
                refine LW.nil ?_
                refine AW.back (fun _ s => Held.of s (by repeat (first | exact Sub.nil _ | refine Sub.cons1 (by repeat (first | exact Take.head _ _ | apply Take.tail)) ?_))) ?_
                refine AW.act 7 (by kernel_rfl) rfl ?_
                refine LW.loadRd (v := .int .i64 l) rfl (hsrc.rd (by repeat (first | exact Take.head _ _ | apply Take.tail))) (rfl) FactsWal4.one2 rfl ?_
                refine LW.nil ?_
                refine AW.back (fun _ s => Held.of s (by repeat (first | exact Sub.nil _ | refine Sub.cons1 (by repeat (first | exact Take.head _ _ | apply Take.tail)) ?_))) ?_
                refine AW.takes [11] 4 (by kernel_rfl) (by kernel_rfl) rfl (by repeat (first | exact PO.body | refine PO.then_ ?_ | refine PO.block ?_ | refine PO.noGoto ?_)) (fun _ s => Held.of s (by repeat (first | exact Sub.nil _ | refine Sub.cons1 (by repeat (first | exact Take.head _ _ | apply Take.tail)) ?_))) ?_
                refine TW.take rfl (Yl.build (vs := [_, _, _, _, _]) (#[.pointer (some ⟨p, 0, none⟩), .pointer (some ⟨q, 0, none⟩), .int .i64 a, .int .i64 l, .int .i64 (m : Int), .bool false]) ⟨rfl, rfl, rfl, rfl, rfl, trivial⟩ (by kernel_rfl)) rfl ?_
                refine TW.nil ?_
                refine AW.act 12 (by kernel_rfl) rfl ?_
                refine LW.box rfl rfl ?_
                intro bb59
                refine LW.nil ?_
                refine AW.back (fun _ s => Held.of s (by repeat (first | exact Sub.nil _ | refine Sub.cons1 (by repeat (first | exact Take.head _ _ | apply Take.tail)) ?_))) ?_
                refine AW.takes [14, 15, 16] 0 (by kernel_rfl) (by kernel_rfl) rfl (by repeat (first | exact PO.body | refine PO.then_ ?_ | refine PO.block ?_ | refine PO.noGoto ?_)) (fun _ s => Held.of s (by repeat (first | exact Sub.nil _ | refine Sub.cons1 (by repeat (first | exact Take.head _ _ | apply Take.tail)) ?_))) ?_
                refine TW.take rfl (Yl.assign rfl) rfl ?_
                refine TW.take rfl (Yl.assign rfl) rfl ?_
                refine TW.take rfl (Yl.assign rfl) rfl ?_
                refine TW.nil ?_
                refine AW.done (by kernel_rfl) ?_
                refine NW.then_ ?_
                refine CW.ret ?_
                refine NW.ret3 rfl rfl rfl rfl ⟨_, .inr ⟨⟨s0, a, l, m, rs⟩, bb59, q, v4, vs, chr, ar, by rw [hz2, hr]; rfl, rfl, ho4, hrs, rfl⟩, ?_⟩
                exact Sub.app (by repeat (first | exact Take.head _ _ | apply Take.tail)) (Sub.app (by repeat (first | exact Take.head _ _ | apply Take.tail)) (Sub.take (Take.both (p := [_]) (by repeat (first | exact Take.head _ _ | apply Take.tail)) (by repeat (first | exact Take.head _ _ | apply Take.tail))) (Sub.one (by repeat (first | exact Take.head _ _ | apply Take.tail)))))
              refine AWs.cons rfl ?_ ?_
              · refine LW.loadRd (v := .int .i64 l) rfl (hsrc.rd (by repeat (first | exact Take.head _ _ | apply Take.tail))) (rfl) FactsWal4.one2 rfl ?_
                refine LW.nil ?_
                refine AW.back (fun _ s => Held.of s (by repeat (first | exact Sub.nil _ | refine Sub.cons1 (by repeat (first | exact Take.head _ _ | apply Take.tail)) ?_))) ?_
                refine AW.act 4 (by kernel_rfl) rfl ?_
                refine LW.loadRd (v := .int .i64 a) rfl (hsrc.rd (by repeat (first | exact Take.head _ _ | apply Take.tail))) (rfl) FactsWal4.one2 rfl ?_
                refine LW.nil ?_
                refine AW.back (fun _ s => Held.of s (by repeat (first | exact Sub.nil _ | refine Sub.cons1 (by repeat (first | exact Take.head _ _ | apply Take.tail)) ?_))) ?_
                refine AW.takes [11] 4 (by kernel_rfl) (by kernel_rfl) rfl (by repeat (first | exact PO.body | refine PO.then_ ?_ | refine PO.block ?_ | refine PO.noGoto ?_)) (fun _ s => Held.of s (by repeat (first | exact Sub.nil _ | refine Sub.cons1 (by repeat (first | exact Take.head _ _ | apply Take.tail)) ?_))) ?_
                refine TW.take rfl (Yl.build (vs := [_, _, _, _, _]) (#[.pointer (some ⟨p, 0, none⟩), .pointer (some ⟨q, 0, none⟩), .int .i64 a, .int .i64 l, .int .i64 (m : Int), .bool false]) ⟨rfl, rfl, rfl, rfl, rfl, trivial⟩ (by kernel_rfl)) rfl ?_
                refine TW.nil ?_
                refine AW.act 12 (by kernel_rfl) rfl ?_
                refine LW.box rfl rfl ?_
                intro bb59
                refine LW.nil ?_
                refine AW.back (fun _ s => Held.of s (by repeat (first | exact Sub.nil _ | refine Sub.cons1 (by repeat (first | exact Take.head _ _ | apply Take.tail)) ?_))) ?_
                refine AW.takes [14, 15, 16] 0 (by kernel_rfl) (by kernel_rfl) rfl (by repeat (first | exact PO.body | refine PO.then_ ?_ | refine PO.block ?_ | refine PO.noGoto ?_)) (fun _ s => Held.of s (by repeat (first | exact Sub.nil _ | refine Sub.cons1 (by repeat (first | exact Take.head _ _ | apply Take.tail)) ?_))) ?_
                refine TW.take rfl (Yl.assign rfl) rfl ?_
                refine TW.take rfl (Yl.assign rfl) rfl ?_
                refine TW.take rfl (Yl.assign rfl) rfl ?_
                refine TW.nil ?_
                refine AW.done (by kernel_rfl) ?_
                refine NW.then_ ?_
                refine CW.ret ?_
                refine NW.ret3 rfl rfl rfl rfl ⟨_, .inr ⟨⟨s0, a, l, m, rs⟩, bb59, q, v4, vs, chr, ar, by rw [hz2, hr]; rfl, rfl, ho4, hrs, rfl⟩, ?_⟩
                exact Sub.app (by repeat (first | exact Take.head _ _ | apply Take.tail)) (Sub.app (by repeat (first | exact Take.head _ _ | apply Take.tail)) (Sub.take (Take.both (p := [_]) (by repeat (first | exact Take.head _ _ | apply Take.tail)) (by repeat (first | exact Take.head _ _ | apply Take.tail))) (Sub.one (by repeat (first | exact Take.head _ _ | apply Take.tail)))))
              exact AWs.nil
            exact AWs.nil
    · refine QW.step (Yl.neq true rfl rfl (bne_iff_ne.2 (by omega))) rfl ?_
      refine QW.step (Yl.move rfl) rfl ?_
      refine QW.off 22 rfl rfl rfl rfl ?_
      refine QW.off 22 rfl rfl rfl rfl ?_
      refine QW.off 22 rfl rfl rfl rfl ?_
      refine QW.off 22 rfl rfl rfl rfl ?_
      refine QW.step (Yl.pickT rfl rfl) rfl ?_
      refine QW.step (Yl.move rfl) rfl ?_
      refine QW.off 28 rfl rfl rfl rfl ?_
      refine QW.off 28 rfl rfl rfl rfl ?_
      refine QW.off 28 rfl rfl rfl rfl ?_
      refine QW.off 28 rfl rfl rfl rfl ?_
      refine QW.off 28 rfl rfl rfl rfl ?_
      refine QW.off 28 rfl rfl rfl rfl ?_
      refine QW.step (Yl.pickT rfl rfl) rfl ?_
      refine QW.nil ?_
      refine NW.then_ ?_
      refine CW.cond_true rfl ?_
      refine CW.seq ?_
      refine CW.region ?_
      refine LW.assign rfl rfl ?_
      refine LW.assign rfl rfl ?_
      refine LW.assign rfl rfl ?_
      refine LW.nil ?_
      refine NW.then_ ?_
      refine CW.ret ?_
      refine NW.then_ret ?_
      refine NW.ret3 rfl rfl rfl rfl ⟨_, .inl ⟨hz1 hl3, rfl, rfl⟩, ?_⟩
      exact Sub.one (by repeat (first | exact Take.head _ _ | apply Take.tail))
end
end Go.Proofs.YtpnhonhjheahhaaDoor
