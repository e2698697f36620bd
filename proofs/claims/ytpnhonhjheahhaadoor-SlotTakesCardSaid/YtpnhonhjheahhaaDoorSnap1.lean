/-
  TEXTS BESIDE A LOG: the contracts.
-/
import Derived.Test.YtpnhonhjheahhaaDoorWal4
namespace Go.Proofs.YtpnhonhjheahhaaDoor
open Go.RowKit
namespace FactsSnap1
theorem fname27 : (Tryd.f27.name == "runtime.NumGoroutine") = false := by kernel_rfl
theorem fname31 : (Tryd.f31.name == "runtime.NumGoroutine") = false := by kernel_rfl
theorem fname36 : (Tryd.f36.name == "runtime.NumGoroutine") = false := by kernel_rfl
theorem fname39 : (Tryd.f39.name == "runtime.NumGoroutine") = false := by kernel_rfl
theorem fname40 : (Tryd.f40.name == "runtime.NumGoroutine") = false := by kernel_rfl
theorem fname43 : (Tryd.f43.name == "runtime.NumGoroutine") = false := by kernel_rfl
theorem fname51 : (Tryd.f51.name == "runtime.NumGoroutine") = false := by kernel_rfl
theorem fname53 : (Tryd.f53.name == "runtime.NumGoroutine") = false := by kernel_rfl
theorem info5 : (Tryd.prog.info? 5).map (fun i => (i.zero, i.size, i.bytes)) = some (some (.int .u8 0), 1, 1) := by kernel_rfl
theorem szt5 : (Tryd.prog.info? 5).map (·.size) = some 1 := by kernel_rfl
end FactsSnap1
def mostN (n : Nat) : Nat := n / 4 * 64
def beginN (n a : Nat) : Nat := n / 2 + (a - 1) * (n / 4)
def areaC (N : Nat → List UInt8) (i m : Nat) : List UInt8 := (secsC N i ((m + 63) / 64)).take m
def putTo (L : LogV) : Nat := if L.area = 1 then 2 else 1
def putL (n : Nat) (d : DevS) (L : LogV) (t : List UInt8) : Int × DevS × LogV :=
  if mostN n < t.length then (11, d, L)
  else if (wrO n d (beginN n (putTo L)) t).1 ≠ 0 then ((wrO n d (beginN n (putTo L)) t).1, (wrO n d (beginN n (putTo L)) t).2, L)
  else if (wrO n d (beginN n (putTo L)) t).2.flushE ≠ 0 then ((wrO n d (beginN n (putTo L)) t).2.flushE, (wrO n d (beginN n (putTo L)) t).2.flush n, L)
  else resetL n ((wrO n d (beginN n (putTo L)) t).2.flush n) L (putTo L : Int) (t.length : Int)
def getL (n : Nat) (N : Nat → List UInt8) (L : LogV) : Int × List UInt8 :=
  if L.area = 0 then (0, []) else if L.area < 0 ∨ 2 < L.area ∨ L.length < 0 ∨ (mostN n : Int) < L.length then (10, [])
  else (0, areaC N (beginN n L.area.toNat) L.length.toNat)
section
variable (W : World) (B : Nat)
theorem snap_Most (p bn bw bl n : Nat) (s : DevS) (h1 : n ≤ 4096) : Spec Tryd.prog W B 36 [.pointer (some ⟨p, 0, none⟩)] (devC p bn bw bl n s) (fun v post => v = .int .i64 (mostN n : Int) ∧ post = devC p bn bw bl n s) := by
  refine Spec.enter ([devC p bn bw bl n s]) Tryd.func36 rfl Tryd.ntmps36 rfl (by first | rfl | simp) (fun w0 => ?_)
  refine CW.seq ?_
  refine CW.region ?_
  refine LW.assign rfl rfl ?_
  refine LW.nil ?_
  refine NW.then_ ?_
  refine CW.seq ?_
  refine CW.region ?_
  refine LW.move rfl rfl ?_
  refine LW.call (dev_Sectors W B p bn bw bl n s) Tryd.func43 rfl FactsSnap1.fname43 ⟨rfl, trivial⟩ (by repeat (first | exact Take.head _ _ | apply Take.tail)) rfl ?_
  rintro _ _ ⟨rfl, rfl⟩
  refine LW.quoN rfl rfl (by omega) (by omega) rfl ?_
  refine LW.mul64 rfl rfl (by omega) (by omega) rfl ?_
  refine LW.assign rfl rfl ?_
  refine LW.nil ?_
  refine NW.then_ ?_
  refine CW.ret ?_
  refine NW.ret1 rfl rfl ⟨_, ⟨by unfold mostN; congr 1, rfl⟩, ?_⟩
  exact Sub.one (by repeat (first | exact Take.head _ _ | apply Take.tail))
theorem snap_begin (p bn bw bl n : Nat) (s : DevS) (h1 : n ≤ 4096) (a : Nat) (ha : a = 1 ∨ a = 2) : Spec Tryd.prog W B 51 [.pointer (some ⟨p, 0, none⟩), .int .i64 (a : Int)] (devC p bn bw bl n s) (fun v post => v = .int .i64 (beginN n a : Int) ∧ post = devC p bn bw bl n s) := by
  have h13 : IntKind.i64.wrap (((a : Int) - 1) * ((n : Int) / 4)) = (((a - 1) * (n / 4) : Nat) : Int) := by
    rcases ha with rfl | rfl
    · exact wr64 (by omega) (by omega) (by omega)
    · exact wr64 (by omega) (by omega) (by omega)
  have h14 : IntKind.i64.wrap ((n : Int) / 2 + (((a - 1) * (n / 4) : Nat) : Int)) = (beginN n a : Int) := by
    unfold beginN
    rcases ha with rfl | rfl
    · exact wr64 (by omega) (by omega) (by omega)
    · exact wr64 (by omega) (by omega) (by omega)
  refine Spec.enter ([devC p bn bw bl n s]) Tryd.func51 rfl Tryd.ntmps51 rfl (by first | rfl | simp) (fun w0 => ?_)
  refine CW.seq ?_
  refine CW.region ?_
  refine LW.assign rfl rfl ?_
  refine LW.nil ?_
  refine NW.then_ ?_
  refine CW.seq ?_
  refine CW.region ?_
  refine LW.move rfl rfl ?_
  refine LW.call (dev_Sectors W B p bn bw bl n s) Tryd.func43 rfl FactsSnap1.fname43 ⟨rfl, trivial⟩ (by repeat (first | exact Take.head _ _ | apply Take.tail)) rfl ?_
  rintro _ _ ⟨rfl, rfl⟩
  refine LW.quoN rfl rfl (by omega) (by omega) rfl ?_
  refine LW.move rfl rfl ?_
  refine LW.sub64 rfl rfl (by omega) (by omega) rfl ?_
  refine LW.move rfl rfl ?_
  refine LW.call (dev_Sectors W B p bn bw bl n s) Tryd.func43 rfl FactsSnap1.fname43 ⟨rfl, trivial⟩ (by repeat (first | exact Take.head _ _ | apply Take.tail)) rfl ?_
  rintro _ _ ⟨rfl, rfl⟩
  refine LW.quoN rfl rfl (by omega) (by omega) rfl ?_
  refine LW.mul ((((a - 1) * (n / 4) : Nat) : Int)) rfl rfl (h13) rfl ?_
  refine LW.add ((beginN n a : Int)) rfl rfl (h14) rfl ?_
  refine LW.assign rfl rfl ?_
  refine LW.nil ?_
  refine NW.then_ ?_
  refine CW.ret ?_
  refine NW.ret1 rfl rfl ⟨_, ⟨rfl, rfl⟩, ?_⟩
  exact Sub.one (by repeat (first | exact Take.head _ _ | apply Take.tail))

set_option maxHeartbeats 1000000 in
theorem snap_Put (l q p bn bw bl n : Nat) (s : DevS) (hs : s.Ok n) (L : LogV) (hL : L.In) (hlb : L.lbad = false) (hsb : L.sbad = false) (t : List UInt8) (ht : t.length ≤ 10000000) (src : List Row) (A : Option Addr) (cp : Nat) (hsrc : Src W B src A (t.map u8v)) (hcp : t.length ≤ cp) :
    Spec Tryd.prog W B 37 [.pointer (some ⟨p, 0, none⟩), .pointer (some ⟨l, 0, none⟩), .slice A t.length cp] (src ++ (logC l q p L ++ devC p bn bw bl n s))
      (fun v post => v = .int .i64 (putL n s L t).1 ∧ post = src ++ (logC l q p (putL n s L t).2.2 ++ devC p bn bw bl n (putL n s L t).2.1)) := by
  have hn0 := hs.n0
  have hn1 := hs.n1
  have hp1 : mostN n < t.length → putL n s L t = (11, s, L) := fun h => by rw [putL, if_pos h]
  have hp2 : ¬ mostN n < t.length → (wrO n s (beginN n (putTo L)) t).1 ≠ 0 → putL n s L t = ((wrO n s (beginN n (putTo L)) t).1, (wrO n s (beginN n (putTo L)) t).2, L) := fun h h' => by rw [putL, if_neg h, if_pos h']
  have hp3 : ¬ mostN n < t.length → (wrO n s (beginN n (putTo L)) t).1 = 0 → (wrO n s (beginN n (putTo L)) t).2.flushE ≠ 0 → putL n s L t = ((wrO n s (beginN n (putTo L)) t).2.flushE, (wrO n s (beginN n (putTo L)) t).2.flush n, L) := fun h h' h'' => by rw [putL, if_neg h, if_neg (fun k => k h'), if_pos h'']
  have hp4 : ¬ mostN n < t.length → (wrO n s (beginN n (putTo L)) t).1 = 0 → (wrO n s (beginN n (putTo L)) t).2.flushE = 0 → putL n s L t = resetL n ((wrO n s (beginN n (putTo L)) t).2.flush n) L (putTo L : Int) (t.length : Int) := fun h h' h'' => by rw [putL, if_neg h, if_neg (fun k => k h'), if_neg (fun k => k h'')]
  have hto : putTo L = 1 ∨ putTo L = 2 := by unfold putTo; split <;> simp
  have htoy : L.area = 1 → putTo L = 2 := fun h => by rw [putTo, if_pos h]
  have hton : L.area ≠ 1 → putTo L = 1 := fun h => by rw [putTo, if_neg h]
  have hbg : beginN n (putTo L) ≤ 10000 := by unfold beginN; rcases hto with h | h <;> rw [h] <;> omega
  refine Spec.enter ([src, [logR l q p L], [slC q p L.serial L.sbad], devC p bn bw bl n s]) Tryd.func37 rfl Tryd.ntmps37 rfl (by first | rfl | simp) (fun w0 => ?_)
  refine CW.seq ?_
  refine CW.region ?_
  refine LW.assign rfl rfl ?_
  refine LW.nil ?_
  refine NW.then_ ?_
  refine CW.seq ?_
  refine CW.block ?_
  refine CW.seq ?_
  refine CW.region ?_
  refine LW.move rfl rfl ?_
  refine LW.lenSlice rfl Tryd.underlying31 rfl ?_
  refine LW.move rfl rfl ?_
  refine LW.call (snap_Most W B p bn bw bl n s hn1) Tryd.func36 rfl FactsSnap1.fname36 ⟨rfl, trivial⟩ (by repeat (first | exact Take.head _ _ | apply Take.tail)) rfl ?_
  rintro _ _ ⟨rfl, rfl⟩
  by_cases hm : mostN n < t.length
  · refine LW.gtr true rfl rfl (decide_eq_true (by omega)) rfl ?_
    refine LW.assign rfl rfl ?_
    refine LW.nil ?_
    refine NW.then_ ?_
    refine CW.cond_true rfl ?_
    refine CW.seq ?_
    have hap := hp1 hm
    refine CW.region ?_
    refine LW.assign rfl rfl ?_
    refine LW.nil ?_
    refine NW.then_ ?_
    refine CW.ret ?_
    refine NW.block_ret ?_
    refine NW.then_ret ?_
    refine NW.ret1 rfl rfl ⟨_, ⟨by rw [hap], by rw [hap]⟩, ?_⟩
    exact Sub.app (by repeat (first | exact Take.head _ _ | apply Take.tail)) (Sub.take (Take.both (p := [_]) (by repeat (first | exact Take.head _ _ | apply Take.tail)) (by repeat (first | exact Take.head _ _ | apply Take.tail))) (Sub.one (by repeat (first | exact Take.head _ _ | apply Take.tail))))
  · refine LW.gtr false rfl rfl (decide_eq_false (by omega)) rfl ?_
    refine LW.assign rfl rfl ?_
    refine LW.nil ?_
    refine NW.then_ ?_
    refine CW.cond_false rfl ?_
    refine CW.seq ?_
    refine CW.region ?_
    refine LW.move rfl rfl ?_
    refine LW.ptrNil _ rfl Tryd.underlying27 rfl rfl ?_
    refine LW.move rfl rfl ?_
    refine LW.on 24 rfl rfl ?_
    refine LW.move rfl rfl ?_
    refine LW.on 24 rfl rfl ?_
    refine LW.ptrNil _ rfl Tryd.underlying23 rfl rfl ?_
    refine LW.pickF rfl rfl rfl ?_
    refine LW.assign rfl rfl ?_
    refine LW.nil ?_
    refine NW.then_ ?_
    refine CW.cond_false rfl ?_
    refine CW.skip ?_
    refine NW.block ?_
    refine NW.then_ ?_
    refine CW.seq ?_
    replace hp2 := hp2 hm
    replace hp3 := hp3 hm
    replace hp4 := hp4 hm
    refine CW.region ?_
    refine LW.move rfl rfl ?_
    refine LW.call (wal_Area W B l q p L) Tryd.func31 rfl FactsSnap1.fname31 ⟨rfl, trivial⟩ (by repeat (first | exact Take.head _ _ | apply Take.tail)) rfl ?_
    rintro _ _ ⟨rfl, rfl⟩
    refine LW.move rfl rfl ?_
    refine LW.extract rfl rfl rfl ?_
    refine LW.extract rfl rfl rfl ?_
    refine LW.assign rfl rfl ?_
    refine LW.assign rfl rfl ?_
    refine LW.nil ?_
    refine NW.then_ ?_
    refine CW.seq ?_
    refine CW.region ?_
    refine LW.assign rfl rfl ?_
    refine LW.nil ?_
    refine NW.then_ ?_
    refine CW.cut (fun _ : Unit => [(9, .int .i64 (putTo L : Int)), (0, .pointer (some ⟨p, 0, none⟩)), (1, .pointer (some ⟨l, 0, none⟩)), (2, .slice A t.length cp)]) (fun _ => [src, [logR l q p L], [slC q p L.serial L.sbad], devC p bn bw bl n s]) (fun _ => True) ?cut9_1 ?cut9_2
    case cut9_1 =>
      refine CW.seq ?_
      refine CW.region ?_
      refine LW.move rfl rfl ?_
      refine LW.eql _ rfl rfl rfl rfl ?_
      refine LW.nil ?_
      refine NW.then_ ?_
      refine CW.cond rfl (fun hc34 => ?_) (fun hc34 => ?_)
      · replace hc34 := beq_iff_eq.1 hc34
        try dsimp only at hc34
        have hto2 := htoy hc34
        refine CW.region ?_
        refine LW.assign rfl rfl ?_
        refine LW.nil ?_
        refine NW.meet (()) ?j1 ?e1 ?h1
        case j1 => exact trivial
        case e1 => rw [hto2]; repeat (first | exact Env.Le.nil _ | refine Env.Le.cons rfl ?_)
        case h1 => repeat (first | exact Sub.heap_nil _ | exact Sub.refl _ | refine Sub.heap_cons (Take.none _) ?_ | refine Sub.heap_cons (by repeat (first | exact Take.head _ _ | apply Take.tail)) ?_)
      · replace hc34 := beq_eq_false_iff_ne.1 hc34
        try dsimp only at hc34
        have hto2 := hton hc34
        refine CW.skip ?_
        refine NW.meet (()) ?j2 ?e2 ?h2
        case j2 => exact trivial
        case e2 => rw [hto2]; repeat (first | exact Env.Le.nil _ | refine Env.Le.cons rfl ?_)
        case h2 => repeat (first | exact Sub.heap_nil _ | exact Sub.refl _ | refine Sub.heap_cons (Take.none _) ?_ | refine Sub.heap_cons (by repeat (first | exact Take.head _ _ | apply Take.tail)) ?_)
    case cut9_2 =>
      rintro ⟨⟩ _
      try dsimp only
      refine CW.seq ?_
      refine CW.region ?_
      refine LW.move rfl rfl ?_
      refine LW.move rfl rfl ?_
      refine LW.call (snap_begin W B p bn bw bl n s hn1 (putTo L) hto) Tryd.func51 rfl FactsSnap1.fname51 ⟨rfl, rfl, trivial⟩ (by repeat (first | exact Take.head _ _ | apply Take.tail)) rfl ?_
      rintro _ _ ⟨rfl, rfl⟩
      refine LW.assign rfl rfl ?_
      refine LW.nil ?_
      refine NW.then_ ?_
      refine CW.seq ?_
      refine CW.seq ?_
      refine CW.region ?_
      refine LW.move rfl rfl ?_
      refine LW.assign rfl rfl ?_
      refine LW.nil ?_
      refine NW.then_ ?_
      refine CW.block ?_
      refine CW.loop (fun st : List UInt8 × Value × Nat × DevS => [(11, st.2.1), (10, .int .i64 (st.2.2.1 : Int)), (9, .int .i64 (putTo L : Int)), (0, .pointer (some ⟨p, 0, none⟩)), (1, .pointer (some ⟨l, 0, none⟩)), (2, .slice A t.length cp)]) (fun st => [src, [logR l q p L], [slC q p L.serial L.sbad], devC p bn bw bl n st.2.2.2]) (fun st => RdS W B st.2.1 st.1 src ∧ st.2.2.2.Ok n ∧ wrO n s (beginN n (putTo L)) t = wrO n st.2.2.2 st.2.2.1 st.1 ∧ st.2.2.1 * 64 + st.1.length ≤ 1000000000 ∧ st.1.length ≤ t.length) (fun st => st.1.length) (t, .slice A t.length cp, beginN n (putTo L), s) ?st11_j ?st11_e ?st11_h ?st11_r
      case st11_j => exact ⟨⟨A, cp, rfl, hcp, hsrc⟩, hs, rfl, by dsimp only; omega, by dsimp only; omega⟩
      case st11_e => repeat (first | exact Env.Le.nil _ | refine Env.Le.cons rfl ?_)
      case st11_h => repeat (first | exact Sub.heap_nil _ | exact Sub.refl _ | refine Sub.heap_cons (Take.none _) ?_ | refine Sub.heap_cons (by repeat (first | exact Take.head _ _ | apply Take.tail)) ?_)
      case st11_r =>
        rintro ⟨r, v1, i, d⟩ ⟨hv1, hd, hwr, hib, hrl⟩; dsimp only at hv1 hd hwr hib hrl; obtain ⟨A1, cp1, rfl, hc1, hs1⟩ := hv1
        try dsimp only
        refine CW.seq ?_
        refine CW.seq ?_
        refine CW.region ?_
        refine LW.move rfl rfl ?_
        refine LW.lenSlice rfl Tryd.underlying31 rfl ?_
        refine LW.gtr _ rfl rfl rfl rfl ?_
        refine LW.nil ?_
        refine NW.then_ ?_
        refine CW.cond rfl (fun hc41 => ?_) (fun hc41 => ?_)
        · replace hc41 := of_decide_eq_true hc41
          try dsimp only at hc41
          have hr0 : r.length ≠ 0 := by omega
          obtain ⟨a1, rfl⟩ : ∃ a, A1 = some a := hs1.some (by rw [List.length_map]; omega)
          have hpl := padS_len r
          refine CW.skip ?_
          refine NW.then_ ?_
          refine CW.seq ?_
          refine CW.block ?_
          refine CW.seq ?_
          refine CW.region ?_
          refine LW.make (64) (64) ((List.replicate 64 (0 : UInt8)).map u8v) rfl rfl (by first | rfl | omega) (by first | rfl | omega) Tryd.underlying31 FactsSnap1.info5 (by omega) (by omega) (by omega) (zeros64) rfl ?_
          intro bm44
          refine LW.assign rfl rfl ?_
          refine LW.nil ?_
          refine NW.then_ ?_
          refine CW.seq ?_
          refine CW.region ?_
          refine LW.move rfl rfl ?_
          refine LW.move rfl rfl ?_
          refine LW.move rfl rfl ?_
          refine LW.copy ((r.take 64).map u8v) ((padS r).map u8v) rfl rfl Tryd.underlying31 FactsSnap1.szt5 (by repeat (first | exact Take.head _ _ | apply Take.tail)) (by rw [List.map_take]; exact (hs1.rd (by repeat (first | exact Take.head _ _ | apply Take.tail))).sub 64) (by rw [List.length_map, List.length_take]; omega) (fun h => (by cases h)) (by rw [List.length_map, List.length_take, List.length_map, List.length_replicate]; omega) (u8vs_one _) (pad_row r _ rfl) rfl ?_
          refine LW.cut (min r.length 64) (r.length) (cp1) (some _) none none rfl Tryd.underlying31 FactsSnap1.szt5 (fun a hf => congrArg some (hf.eval rfl)) (fun a hf => rfl) (fun a hf => rfl) (.inr ⟨_, rfl⟩) (.inl ⟨rfl, rfl, rfl⟩) (.inl ⟨rfl, rfl⟩) (by omega) (by omega) (by omega) (by omega) rfl ?_
          refine LW.assign rfl rfl ?_
          refine LW.nil ?_
          refine NW.then_ ?_
          refine CW.seq ?_
          refine CW.region ?_
          refine LW.move rfl rfl ?_
          refine LW.move rfl rfl ?_
          refine LW.move rfl rfl ?_
          have hW := dev_WriteG W B p bn bw bl n d hd (i : Int) [cr bm44 5 ((padS r).map u8v)] (some ⟨bm44, 0, none⟩) 64 (padS r) (Src.row (fun j v hj => by rw [Nat.zero_add]; exact hj))
          rw [hpl] at hW
          refine LW.call (hW) Tryd.func39 rfl FactsSnap1.fname39 ⟨rfl, rfl, rfl, trivial⟩ (Take.both (by repeat (first | exact Take.head _ _ | apply Take.tail)) (by repeat (first | exact Take.head _ _ | apply Take.tail))) rfl ?_
          rintro _ _ ⟨rfl, rfl⟩; refine LW.split2 ?_
          refine LW.assign rfl rfl ?_
          refine LW.nil ?_
          refine NW.then_ ?_
          refine CW.seq ?_
          refine CW.region ?_
          refine LW.move rfl rfl ?_
          refine LW.neq _ rfl rfl rfl rfl ?_
          refine LW.nil ?_
          refine NW.then_ ?_
          refine CW.cond rfl (fun hc55 => ?_) (fun hc55 => ?_)
          · replace hc55 := bne_iff_ne.1 hc55
            try dsimp only at hc55
            have hap := hp2 (by rw [hwr, wrO_no hr0 hc55]; exact hc55)
            rw [hwr, wrO_no hr0 hc55] at hap
            have hdw : d.write n (i : Int) (padS r) = d := by rw [DevS.write, if_neg (by rw [hpl]; exact hc55)]
            rw [hdw]
            refine CW.seq ?_
            refine CW.region ?_
            refine LW.move rfl rfl ?_
            refine LW.assign rfl rfl ?_
            refine LW.nil ?_
            refine NW.then_ ?_
            refine CW.ret ?_
            refine NW.block_ret ?_
            refine NW.then_ret ?_
            refine NW.then_ret ?_
            refine NW.block_ret ?_
            refine NW.then_ret ?_
            refine NW.ret1 rfl rfl ⟨_, ⟨by rw [hap], by rw [hap]⟩, ?_⟩
            exact Sub.app (by repeat (first | exact Take.head _ _ | apply Take.tail)) (Sub.take (Take.both (p := [_]) (by repeat (first | exact Take.head _ _ | apply Take.tail)) (by repeat (first | exact Take.head _ _ | apply Take.tail))) (Sub.one (by repeat (first | exact Take.head _ _ | apply Take.tail))))
          · replace hc55 := bne_eq_false_iff_eq.1 hc55
            try dsimp only at hc55
            rw [wrO_ok hr0 hc55] at hwr
            refine CW.skip ?_
            refine NW.block ?_
            refine NW.then_ ?_
            refine CW.region ?_
            refine LW.move rfl rfl ?_
            refine LW.add64 rfl rfl (by omega) (by omega) rfl ?_
            refine LW.assign rfl rfl ?_
            refine LW.nil ?_
            refine NW.meet ((r.drop 64, .slice (cutA (some a1) cp1 (min r.length 64) 1) (r.length - min r.length 64) (cp1 - min r.length 64), i + 1, d.write n (i : Int) (padS r))) ?j3 ?e3 ?h3
            case j3 => exact ⟨⟨by
              have h9 := RdS.cut hs1 hc1 (min r.length 64) (by omega)
              have h8 : r.drop (min r.length 64) = r.drop 64 := by
                rcases Nat.lt_or_ge r.length 64 with h | h
                · rw [show min r.length 64 = r.length by omega, List.drop_length, List.drop_eq_nil_of_le (by omega)]
                · rw [show min r.length 64 = 64 by omega]
              rw [h8] at h9
              exact h9, hd.write _ _, hwr, by dsimp only; rw [List.length_drop]; omega, by dsimp only; rw [List.length_drop]; omega⟩, by dsimp only; rw [List.length_drop]; omega⟩
            case e3 => repeat (first | exact Env.Le.nil _ | refine Env.Le.cons rfl ?_)
            case h3 => repeat (first | exact Sub.heap_nil _ | exact Sub.refl _ | refine Sub.heap_cons (Take.none _) ?_ | refine Sub.heap_cons (by repeat (first | exact Take.head _ _ | apply Take.tail)) ?_)
        · replace hc41 := of_decide_eq_false hc41
          try dsimp only at hc41
          have hr0 : r = [] := List.eq_nil_of_length_eq_zero (by omega)
          subst hr0
          rw [wrO_nil] at hwr
          rw [hwr] at hp3 hp4
          refine CW.exit ?_
          refine NW.then_exit ?_
          refine NW.then_exit ?_
          refine NW.block_exit ?_
          refine NW.then_ ?_
          refine CW.seq ?_
          refine CW.seq ?_
          refine CW.region ?_
          refine LW.move rfl rfl ?_
          refine LW.call (dev_Flush W B p bn bw bl n d hd) Tryd.func53 rfl FactsSnap1.fname53 ⟨rfl, trivial⟩ (by repeat (first | exact Take.head _ _ | apply Take.tail)) rfl ?_
          rintro _ _ ⟨rfl, rfl⟩
          refine LW.assign rfl rfl ?_
          refine LW.nil ?_
          refine NW.then_ ?_
          refine CW.seq ?_
          refine CW.region ?_
          refine LW.move rfl rfl ?_
          refine LW.neq _ rfl rfl rfl rfl ?_
          refine LW.nil ?_
          refine NW.then_ ?_
          refine CW.cond rfl (fun hc60 => ?_) (fun hc60 => ?_)
          · replace hc60 := bne_iff_ne.1 hc60
            try dsimp only at hc60
            have hap := hp3 rfl hc60
            refine CW.seq ?_
            refine CW.region ?_
            refine LW.move rfl rfl ?_
            refine LW.assign rfl rfl ?_
            refine LW.nil ?_
            refine NW.then_ ?_
            refine CW.ret ?_
            refine NW.then_ret ?_
            refine NW.ret1 rfl rfl ⟨_, ⟨by rw [hap], by rw [hap]⟩, ?_⟩
            exact Sub.app (by repeat (first | exact Take.head _ _ | apply Take.tail)) (Sub.take (Take.both (p := [_]) (by repeat (first | exact Take.head _ _ | apply Take.tail)) (by repeat (first | exact Take.head _ _ | apply Take.tail))) (Sub.one (by repeat (first | exact Take.head _ _ | apply Take.tail))))
          · replace hc60 := bne_eq_false_iff_eq.1 hc60
            try dsimp only at hc60
            have hap := hp4 rfl hc60
            refine CW.skip ?_
            refine NW.then_ ?_
            refine CW.seq ?_
            refine CW.region ?_
            refine LW.move rfl rfl ?_
            refine LW.move rfl rfl ?_
            refine LW.move rfl rfl ?_
            refine LW.lenSlice rfl Tryd.underlying31 rfl ?_
            refine LW.call (wal_Reset W B l q p bn bw bl n (d.flush n) hd.flush L hL hlb hsb (putTo L : Int) (t.length : Int) ⟨by omega, by omega⟩ ⟨by omega, by omega⟩) Tryd.func27 rfl FactsSnap1.fname27 ⟨rfl, rfl, rfl, trivial⟩ (Take.both (Take.both (p := [_]) (by repeat (first | exact Take.head _ _ | apply Take.tail)) (by repeat (first | exact Take.head _ _ | apply Take.tail))) (by repeat (first | exact Take.head _ _ | apply Take.tail))) rfl ?_
            rintro _ _ ⟨rfl, rfl⟩; refine LW.split2 (LW.split2 ?_)
            refine LW.assign rfl rfl ?_
            refine LW.nil ?_
            refine NW.then_ ?_
            refine CW.ret ?_
            refine NW.ret1 rfl rfl ⟨_, ⟨by rw [hap], by rw [hap]⟩, ?_⟩
            exact Sub.app (by repeat (first | exact Take.head _ _ | apply Take.tail)) (Sub.take (Take.both (p := [_]) (by repeat (first | exact Take.head _ _ | apply Take.tail)) (by repeat (first | exact Take.head _ _ | apply Take.tail))) (Sub.one (by repeat (first | exact Take.head _ _ | apply Take.tail))))

theorem snap_Get (l q p bn bw bl n : Nat) (s : DevS) (hs : s.Ok n) (L : LogV) :
    Spec Tryd.prog W B 34 [.pointer (some ⟨p, 0, none⟩), .pointer (some ⟨l, 0, none⟩)] ([logR l q p L] ++ devC p bn bw bl n s)
      (fun v post => ∃ v2 ch, v = .tuple #[v2, .int .i64 (getL n s.N L).1] ∧ RecAt W B ch v2 (getL n s.N L).2 ∧ post = ch ++ ([logR l q p L] ++ devC p bn bw bl n s)) := by
  have hn0 := hs.n0
  have hn1 := hs.n1
  have hg1 : L.area = 0 → getL n s.N L = (0, []) := fun h => by rw [getL, if_pos h]
  have hg2 : L.area ≠ 0 → (L.area < 0 ∨ 2 < L.area ∨ L.length < 0 ∨ (mostN n : Int) < L.length) → getL n s.N L = (10, []) := fun h h' => by rw [getL, if_neg h, if_pos h']
  have hg3 : L.area ≠ 0 → ¬ (L.area < 0 ∨ 2 < L.area ∨ L.length < 0 ∨ (mostN n : Int) < L.length) → getL n s.N L = (0, areaC s.N (beginN n L.area.toNat) L.length.toNat) := fun h h' => by rw [getL, if_neg h, if_neg h']
  have hNl : ∀ i, i < n → (s.N i).length = 64 := fun i hi => hs.now.get (hs.now.getD hi)
  have hnil : ∀ ch, RecAt W B ch (.slice none 0 0) [] := fun ch => ⟨none, 0, rfl, Src.nil, fun _ => rfl, Nat.le_refl _⟩
  refine Spec.enter ([[logR l q p L], devC p bn bw bl n s]) Tryd.func34 rfl Tryd.ntmps34 rfl (by first | rfl | simp) (fun w0 => ?_)
  refine CW.seq ?_
  refine CW.region ?_
  refine LW.assign rfl rfl ?_
  refine LW.assign rfl rfl ?_
  refine LW.nil ?_
  refine NW.then_ ?_
  refine CW.seq ?_
  refine CW.seq ?_
  refine CW.region ?_
  refine LW.move rfl rfl ?_
  refine LW.ptrNil _ rfl Tryd.underlying27 rfl rfl ?_
  refine LW.move rfl rfl ?_
  refine LW.on 14 rfl rfl ?_
  refine LW.move rfl rfl ?_
  refine LW.on 14 rfl rfl ?_
  refine LW.ptrNil _ rfl Tryd.underlying23 rfl rfl ?_
  refine LW.pickF rfl rfl rfl ?_
  refine LW.nil ?_
  refine NW.then_ ?_
  refine CW.cond_false rfl ?_
  refine CW.skip ?_
  refine NW.then_ ?_
  refine CW.seq ?_
  refine CW.region ?_
  refine LW.move rfl rfl ?_
  refine LW.call (wal_Area W B l q p L) Tryd.func31 rfl FactsSnap1.fname31 ⟨rfl, trivial⟩ (by repeat (first | exact Take.head _ _ | apply Take.tail)) rfl ?_
  rintro _ _ ⟨rfl, rfl⟩
  refine LW.move rfl rfl ?_
  refine LW.extract rfl rfl rfl ?_
  refine LW.extract rfl rfl rfl ?_
  refine LW.assign rfl rfl ?_
  refine LW.assign rfl rfl ?_
  refine LW.nil ?_
  refine NW.then_ ?_
  refine CW.seq ?_
  refine CW.seq ?_
  refine CW.region ?_
  refine LW.move rfl rfl ?_
  refine LW.eql _ rfl rfl rfl rfl ?_
  refine LW.nil ?_
  refine NW.then_ ?_
  refine CW.cond rfl (fun hc24 => ?_) (fun hc24 => ?_)
  · replace hc24 := beq_iff_eq.1 hc24
    try dsimp only at hc24
    have hap := hg1 hc24
    refine CW.seq ?_
    refine CW.region ?_
    refine LW.assign rfl rfl ?_
    refine LW.assign rfl rfl ?_
    refine LW.nil ?_
    refine NW.then_ ?_
    refine CW.ret ?_
    refine NW.then_ret ?_
    refine NW.ret2 rfl rfl rfl ⟨_, ⟨.slice none 0 0, [], by rw [hap], by rw [hap]; exact hnil _, rfl⟩, ?_⟩
    exact Sub.app (Take.none _) (Sub.take (by repeat (first | exact Take.head _ _ | apply Take.tail)) (Sub.one (by repeat (first | exact Take.head _ _ | apply Take.tail))))
  · replace hc24 := beq_eq_false_iff_ne.1 hc24
    try dsimp only at hc24
    replace hg2 := hg2 hc24
    replace hg3 := hg3 hc24
    refine CW.skip ?_
    refine NW.then_ ?_
    refine CW.seq ?_
    refine CW.seq ?_
    refine CW.region ?_
    refine LW.move rfl rfl ?_
    by_cases ha0 : L.area < 0
    · refine LW.lss true rfl rfl (decide_eq_true (by omega)) rfl ?_
      refine LW.move rfl rfl ?_
      refine LW.off 27 rfl rfl rfl rfl ?_
      refine LW.off 27 rfl rfl rfl rfl ?_
      refine LW.pickT rfl rfl rfl ?_
      refine LW.move rfl rfl ?_
      refine LW.off 31 rfl rfl rfl rfl ?_
      refine LW.off 31 rfl rfl rfl rfl ?_
      refine LW.pickT rfl rfl rfl ?_
      refine LW.move rfl rfl ?_
      refine LW.off 35 rfl rfl rfl rfl ?_
      refine LW.off 35 rfl rfl rfl rfl ?_
      refine LW.off 35 rfl rfl rfl rfl ?_
      refine LW.off 35 rfl rfl rfl rfl ?_
      refine LW.pickT rfl rfl rfl ?_
      refine LW.nil ?_
      refine NW.then_ ?_
      refine CW.cond_true rfl ?_
      refine CW.seq ?_
      have hap := hg2 (by omega)
      refine CW.region ?_
      refine LW.assign rfl rfl ?_
      refine LW.assign rfl rfl ?_
      refine LW.nil ?_
      refine NW.then_ ?_
      refine CW.ret ?_
      refine NW.then_ret ?_
      refine NW.ret2 rfl rfl rfl ⟨_, ⟨.slice none 0 0, [], by rw [hap], by rw [hap]; exact hnil _, rfl⟩, ?_⟩
      exact Sub.app (Take.none _) (Sub.take (by repeat (first | exact Take.head _ _ | apply Take.tail)) (Sub.one (by repeat (first | exact Take.head _ _ | apply Take.tail))))
    · refine LW.lss false rfl rfl (decide_eq_false (by omega)) rfl ?_
      refine LW.move rfl rfl ?_
      refine LW.on 27 rfl rfl ?_
      refine LW.move rfl rfl ?_
      by_cases ha2 : 2 < L.area
      · refine LW.on 27 rfl rfl ?_
        refine LW.gtr true rfl rfl (decide_eq_true (by omega)) rfl ?_
        refine LW.pickF rfl rfl rfl ?_
        refine LW.move rfl rfl ?_
        refine LW.off 31 rfl rfl rfl rfl ?_
        refine LW.off 31 rfl rfl rfl rfl ?_
        refine LW.pickT rfl rfl rfl ?_
        refine LW.move rfl rfl ?_
        refine LW.off 35 rfl rfl rfl rfl ?_
        refine LW.off 35 rfl rfl rfl rfl ?_
        refine LW.off 35 rfl rfl rfl rfl ?_
        refine LW.off 35 rfl rfl rfl rfl ?_
        refine LW.pickT rfl rfl rfl ?_
        refine LW.nil ?_
        refine NW.then_ ?_
        refine CW.cond_true rfl ?_
        refine CW.seq ?_
        have hap := hg2 (by omega)
        refine CW.region ?_
        refine LW.assign rfl rfl ?_
        refine LW.assign rfl rfl ?_
        refine LW.nil ?_
        refine NW.then_ ?_
        refine CW.ret ?_
        refine NW.then_ret ?_
        refine NW.ret2 rfl rfl rfl ⟨_, ⟨.slice none 0 0, [], by rw [hap], by rw [hap]; exact hnil _, rfl⟩, ?_⟩
        exact Sub.app (Take.none _) (Sub.take (by repeat (first | exact Take.head _ _ | apply Take.tail)) (Sub.one (by repeat (first | exact Take.head _ _ | apply Take.tail))))
      · refine LW.on 27 rfl rfl ?_
        refine LW.gtr false rfl rfl (decide_eq_false (by omega)) rfl ?_
        refine LW.pickF rfl rfl rfl ?_
        refine LW.move rfl rfl ?_
        refine LW.on 31 rfl rfl ?_
        refine LW.move rfl rfl ?_
        by_cases hl0 : L.length < 0
        · refine LW.on 31 rfl rfl ?_
          refine LW.lss true rfl rfl (decide_eq_true (by omega)) rfl ?_
          refine LW.pickF rfl rfl rfl ?_
          refine LW.move rfl rfl ?_
          refine LW.off 35 rfl rfl rfl rfl ?_
          refine LW.off 35 rfl rfl rfl rfl ?_
          refine LW.off 35 rfl rfl rfl rfl ?_
          refine LW.off 35 rfl rfl rfl rfl ?_
          refine LW.pickT rfl rfl rfl ?_
          refine LW.nil ?_
          refine NW.then_ ?_
          refine CW.cond_true rfl ?_
          refine CW.seq ?_
          have hap := hg2 (by omega)
          refine CW.region ?_
          refine LW.assign rfl rfl ?_
          refine LW.assign rfl rfl ?_
          refine LW.nil ?_
          refine NW.then_ ?_
          refine CW.ret ?_
          refine NW.then_ret ?_
          refine NW.ret2 rfl rfl rfl ⟨_, ⟨.slice none 0 0, [], by rw [hap], by rw [hap]; exact hnil _, rfl⟩, ?_⟩
          exact Sub.app (Take.none _) (Sub.take (by repeat (first | exact Take.head _ _ | apply Take.tail)) (Sub.one (by repeat (first | exact Take.head _ _ | apply Take.tail))))
        · refine LW.on 31 rfl rfl ?_
          refine LW.lss false rfl rfl (decide_eq_false (by omega)) rfl ?_
          refine LW.pickF rfl rfl rfl ?_
          refine LW.move rfl rfl ?_
          refine LW.on 35 rfl rfl ?_
          refine LW.move rfl rfl ?_
          refine LW.on 35 rfl rfl ?_
          refine LW.move rfl rfl ?_
          refine LW.on 35 rfl rfl ?_
          refine LW.call (snap_Most W B p bn bw bl n s hn1) Tryd.func36 rfl FactsSnap1.fname36 ⟨rfl, trivial⟩ (by repeat (first | exact Take.head _ _ | apply Take.tail)) rfl ?_
          rintro _ _ ⟨rfl, rfl⟩
          by_cases hlm : (mostN n : Int) < L.length
          · refine LW.on 35 rfl rfl ?_
            refine LW.gtr true rfl rfl (decide_eq_true (by omega)) rfl ?_
            refine LW.pickF rfl rfl rfl ?_
            refine LW.nil ?_
            refine NW.then_ ?_
            refine CW.cond_true rfl ?_
            refine CW.seq ?_
            have hap := hg2 (by omega)
            refine CW.region ?_
            refine LW.assign rfl rfl ?_
            refine LW.assign rfl rfl ?_
            refine LW.nil ?_
            refine NW.then_ ?_
            refine CW.ret ?_
            refine NW.then_ret ?_
            refine NW.ret2 rfl rfl rfl ⟨_, ⟨.slice none 0 0, [], by rw [hap], by rw [hap]; exact hnil _, rfl⟩, ?_⟩
            exact Sub.app (Take.none _) (Sub.take (by repeat (first | exact Take.head _ _ | apply Take.tail)) (Sub.one (by repeat (first | exact Take.head _ _ | apply Take.tail))))
          · refine LW.on 35 rfl rfl ?_
            refine LW.gtr false rfl rfl (decide_eq_false (by omega)) rfl ?_
            refine LW.pickF rfl rfl rfl ?_
            refine LW.nil ?_
            refine NW.then_ ?_
            refine CW.cond_false rfl ?_
            refine CW.skip ?_
            refine NW.then_ ?_
            refine CW.seq ?_
            have hap := hg3 (by omega)
            obtain ⟨a, ha⟩ : ∃ a : Nat, L.area = (a : Int) := ⟨L.area.toNat, by omega⟩
            obtain ⟨m, hm⟩ : ∃ m : Nat, L.length = (m : Int) := ⟨L.length.toNat, by omega⟩
            rw [ha, hm, Int.toNat_natCast, Int.toNat_natCast] at hap
            rw [ha, hm]
            have ha12 : a = 1 ∨ a = 2 := by omega
            have hmn : m ≤ mostN n := by omega
            have hbe : beginN n a + (m + 63) / 64 ≤ n := by unfold beginN; unfold mostN at hmn; rcases ha12 with h | h <;> rw [h] <;> omega
            refine CW.region ?_
            refine LW.assign rfl rfl ?_
            refine LW.nil ?_
            refine NW.then_ ?_
            refine CW.seq ?_
            refine CW.seq ?_
            refine CW.region ?_
            refine LW.move rfl rfl ?_
            refine LW.move rfl rfl ?_
            refine LW.call (snap_begin W B p bn bw bl n s hn1 a ha12) Tryd.func51 rfl FactsSnap1.fname51 ⟨rfl, rfl, trivial⟩ (by repeat (first | exact Take.head _ _ | apply Take.tail)) rfl ?_
            rintro _ _ ⟨rfl, rfl⟩
            refine LW.assign rfl rfl ?_
            refine LW.nil ?_
            refine NW.then_ ?_
            refine CW.block ?_
            refine CW.loop (fun st : Nat × Value × List Row => [(9, .int .i64 ((beginN n a + st.1 : Nat) : Int)), (8, st.2.1), (7, .int .i64 (m : Int)), (0, .pointer (some ⟨p, 0, none⟩))]) (fun st => [st.2.2, [logR l q p L], devC p bn bw bl n s]) (fun st => (st.1 = 0 ∨ 64 * (st.1 - 1) < m) ∧ OwnB st.2.1 (secsC s.N (beginN n a) st.1) st.2.2) (fun st => m + 64 - 64 * st.1) (0, .slice none 0 0, []) ?st10_j ?st10_e ?st10_h ?st10_r
            case st10_j => exact ⟨.inl rfl, OwnB.nil⟩
            case st10_e => repeat (first | exact Env.Le.nil _ | refine Env.Le.cons rfl ?_)
            case st10_h => repeat (first | exact Sub.heap_nil _ | exact Sub.refl _ | refine Sub.heap_cons (Take.none _) ?_ | refine Sub.heap_cons (by repeat (first | exact Take.head _ _ | apply Take.tail)) ?_)
            case st10_r =>
              rintro ⟨j, v, ch⟩ ⟨hj, ho⟩; dsimp only at hj ho; have hjl : (secsC s.N (beginN n a) j).length = 64 * j := secsC_len _ _ _ (fun k hk => hNl _ (by omega)); obtain ⟨A, cp, rfl, hA, hc⟩ := OwnS.val ho; rw [hjl] at hc ⊢
              try dsimp only
              refine CW.seq ?_
              refine CW.seq ?_
              skip
              refine CW.region ?_
              refine LW.move rfl rfl ?_
              refine LW.lenSlice rfl Tryd.underlying31 rfl ?_
              refine LW.move rfl rfl ?_
              refine LW.lss _ rfl rfl rfl rfl ?_
              refine LW.nil ?_
              refine NW.then_ ?_
              refine CW.cond rfl (fun hc47 => ?_) (fun hc47 => ?_)
              · replace hc47 := of_decide_eq_true hc47
                try dsimp only at hc47
                have hjm : 64 * j < m := by omega
                have hN9 : s.now.getD (beginN n a + j) [] = s.N (beginN n a + j) := rfl
                have hl9 := hNl (beginN n a + j) (by omega)
                refine CW.skip ?_
                refine NW.then_ ?_
                refine CW.seq ?_
                refine CW.block ?_
                refine CW.seq ?_
                refine CW.region ?_
                refine LW.move rfl rfl ?_
                refine LW.move rfl rfl ?_
                refine LW.call (dev_Read W B p bn bw bl n s hs (beginN n a + j) (by omega)) Tryd.func40 rfl FactsSnap1.fname40 ⟨rfl, rfl, trivial⟩ (by repeat (first | exact Take.head _ _ | apply Take.tail)) rfl ?_
                rw [hN9]; rintro _ _ ⟨q1, rfl, rfl⟩; refine LW.split1 ?_
                refine LW.move rfl rfl ?_
                refine LW.extract rfl rfl rfl ?_
                refine LW.extract rfl rfl rfl ?_
                refine LW.assign rfl rfl ?_
                refine LW.assign rfl rfl ?_
                refine LW.nil ?_
                refine NW.then_ ?_
                refine CW.seq ?_
                refine CW.seq ?_
                refine CW.region ?_
                refine LW.move rfl rfl ?_
                refine LW.neq false rfl rfl (rfl) rfl ?_
                refine LW.nil ?_
                refine NW.then_ ?_
                refine CW.cond_false rfl ?_
                refine CW.skip ?_
                refine NW.then_ ?_
                refine CW.region ?_
                refine LW.move rfl rfl ?_
                refine LW.move rfl rfl ?_
                refine LW.append ((s.N (beginN n a + j)).map u8v) rfl rfl Tryd.underlying31 Tryd.underlying31 (.inr ⟨_, rfl⟩) FactsSnap1.info5 rfl ((by unfold OwnB at ho; rw [hjl] at ho; exact ho)) (by repeat (first | exact Take.head _ _ | apply Take.tail)) (fun _ => lenOf_slice _ _ _ _) (first_rd (RdAt.row (by repeat (first | exact Take.head _ _ | apply Take.tail)) (fun j v hj => by rw [Nat.zero_add]; exact hj)) (by rw [List.length_map, hl9]) (fun h => (by cases h))) (by rw [List.length_map, hl9]) (u8vs_one _) (by omega) (by omega) rfl ?_
                intro v' ch' ho'
                refine LW.assign rfl rfl ?_
                refine LW.nil ?_
                refine NW.block ?_
                refine NW.then_ ?_
                refine CW.region ?_
                refine LW.move rfl rfl ?_
                refine LW.add (((beginN n a + (j + 1) : Nat) : Int)) rfl rfl ((by exact wr64 (by omega) (by omega) (by omega))) rfl ?_
                refine LW.assign rfl rfl ?_
                refine LW.nil ?_
                refine NW.meet ((j + 1, v', ch')) ?j1 ?e1 ?h1
                case j1 => exact ⟨⟨.inr (by dsimp only; omega), by rw [secsC_succ]; exact OwnB.app ho' hjl.symm hl9.symm⟩, by dsimp only; omega⟩
                case e1 => repeat (first | exact Env.Le.nil _ | refine Env.Le.cons rfl ?_)
                case h1 => repeat (first | exact Sub.heap_nil _ | exact Sub.refl _ | refine Sub.heap_cons (Take.none _) ?_ | refine Sub.heap_cons (by repeat (first | exact Take.head _ _ | apply Take.tail)) ?_)
              · replace hc47 := of_decide_eq_false hc47
                try dsimp only at hc47
                have hjm : m ≤ 64 * j := by omega
                have hje : (m + 63) / 64 = j := by omega
                refine CW.exit ?_
                refine NW.then_exit ?_
                refine NW.then_exit ?_
                refine NW.block_exit ?_
                refine NW.then_ ?_
                refine CW.seq ?_
                refine CW.region ?_
                refine LW.move rfl rfl ?_
                refine LW.move rfl rfl ?_
                refine LW.cut (0) (m) (cp) none (some _) none rfl Tryd.underlying31 FactsSnap1.szt5 (fun a hf => rfl) (fun a hf => congrArg some (hf.eval rfl)) (fun a hf => rfl) (.inl ⟨rfl, rfl⟩) (.inr ⟨_, rfl⟩) (.inl ⟨rfl, rfl⟩) (by omega) (by omega) (by omega) (by omega) rfl ?_
                refine LW.assign rfl rfl ?_
                refine LW.assign rfl rfl ?_
                refine LW.nil ?_
                refine NW.then_ ?_
                refine CW.ret ?_
                refine NW.ret2 rfl rfl rfl ⟨_, ⟨_, ch, by rw [hap], by rw [hap]; exact ⟨A, cp - 0, by rw [cutA_zero', areaC, hje, List.length_take, hjl, show min m (64 * j) = m by omega]; rfl, by rw [areaC, hje, List.map_take]; exact (OwnS.src ho).sub m, fun h => by have := hA h; rw [areaC, List.length_take, hje]; omega, by rw [areaC, List.length_take]; omega⟩, rfl⟩, ?_⟩
                exact Sub.take (by repeat (first | exact Take.head _ _ | apply Take.tail)) (Sub.take (by repeat (first | exact Take.head _ _ | apply Take.tail)) (Sub.one (by repeat (first | exact Take.head _ _ | apply Take.tail))))
end
end Go.Proofs.YtpnhonhjheahhaaDoor
