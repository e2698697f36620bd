/-
  A SLOT WRITTEN AND READ: the contracts.
-/
import Derived.Test.YtpnhonhjheahhaaDoorRdr
import Derived.Test.YtpnhonhjheahhaaDoorDev4
import Derived.Test.YtpnhonhjheahhaaDoorAuto
import Derived.Test.YtpnhonhjheahhaaDoorCut
import Derived.Test.YtpnhonhjheahhaaDoorAllDef
namespace Go.Proofs.YtpnhonhjheahhaaDoor
open Go.RowKit
namespace FactsSlot1
theorem fname40 : (Tryd.f40.name == "runtime.NumGoroutine") = false := by kernel_rfl
theorem fname59 : (Tryd.f59.name == "runtime.NumGoroutine") = false := by kernel_rfl
theorem fname60 : (Tryd.f60.name == "runtime.NumGoroutine") = false := by kernel_rfl
theorem fname62 : (Tryd.f62.name == "runtime.NumGoroutine") = false := by kernel_rfl
theorem fname64 : (Tryd.f64.name == "runtime.NumGoroutine") = false := by kernel_rfl
theorem fname70 : (Tryd.f70.name == "runtime.NumGoroutine") = false := by kernel_rfl
theorem info2 : (Tryd.prog.info? 2).map (fun i => (i.zero, i.size, i.bytes)) = some (some (.int .i64 0), 1, 8) := by kernel_rfl
theorem info5 : (Tryd.prog.info? 5).map (fun i => (i.zero, i.size, i.bytes)) = some (some (.int .u8 0), 1, 1) := by kernel_rfl
theorem ixs47 : (Tryd.prog.info? 2).map (·.size) = some 1 := by kernel_rfl
theorem sz2 : (Tryd.prog.info? 2).map (·.size) = some 1 := by kernel_rfl
theorem szt5 : (Tryd.prog.info? 5).map (·.size) = some 1 := by kernel_rfl
theorem zero103 : (Tryd.prog.info? 103).bind (·.zero) = some (.agg #[.slice none 0 0]) := by kernel_rfl
end FactsSlot1
section
variable (W : World) (B : Nat)
theorem slot_put (serial : Int) (hI : I64 serial) (ns : List Int) (hns : ∀ n ∈ ns, I64 n) (h4 : ns.length ≤ 4) (src : List Row) (A : Option Addr) (cp : Nat) (hsrc : Src W B src A (ns.map i64v)) :
    Spec Tryd.prog W B 52 [.int .i64 serial, .slice A ns.length cp] src (fun v post => ∃ A4 cp4 ch, v = .slice A4 64 cp4 ∧ Src W B ch A4 ((slotB serial ns).map u8v) ∧ post = src ++ ch) := by
  have hlI : I64 (ns.length : Int) := ⟨by omega, by omega⟩
  have hXl := slotX_len (s := serial) h4
  have hel := encs_len ns
  refine Spec.enter ([src]) Tryd.func52 rfl Tryd.ntmps52 rfl (by first | rfl | simp) (fun w0 => ?_)
  refine CW.seq ?_
  refine CW.region ?_
  refine LW.assign rfl rfl ?_
  refine LW.nil ?_
  refine NW.then_ ?_
  refine CW.seq ?_
  refine CW.region ?_
  refine LW.alloc FactsSlot1.zero103 rfl ?_
  intro ba5
  refine LW.nil ?_
  refine NW.then_ ?_
  refine CW.seq ?_
  refine CW.region ?_
  refine LW.move rfl rfl ?_
  refine LW.move rfl rfl ?_
  refine LW.lenSlice rfl Tryd.underlying47 rfl ?_
  refine LW.buildSlice (vs := [_, _, _]) ⟨rfl, rfl, rfl, trivial⟩ rfl (by intro v hv; simp at hv; rcases hv with rfl | rfl | rfl <;> rfl) Tryd.underlying47 FactsSlot1.info2 rfl (by decide) (by decide) rfl ?_
  intro bs9
  refine LW.call (bin_WInt W B ba5 (.slice none 0 0) [] [] OwnB.nil [20750, serial, (ns.length : Int)] (by intro n hn; simp at hn; rcases hn with rfl | rfl | rfl; exact ⟨by decide, by decide⟩; exact hI; exact hlI) [cr bs9 2 [.int .i64 20750, .int .i64 serial, .int .i64 (ns.length : Int)]] (some ⟨bs9, 0, none⟩) 3 (Src.row (fun j v hj => by rw [Nat.zero_add]; exact hj)) (by simp)) Tryd.func59 rfl FactsSlot1.fname59 ⟨rfl, rfl, trivial⟩ (Take.both (by repeat (first | exact Take.head _ _ | apply Take.tail)) (Take.both (by repeat (first | exact Take.head _ _ | apply Take.tail)) (Take.none _))) rfl ?_
  rintro _ _ ⟨rfl, v1, ch1, ho1, rfl⟩; rw [List.nil_append] at ho1; refine LW.split2 (LW.split2p ?_)
  refine LW.nil ?_
  refine NW.then_ ?_
  refine CW.seq ?_
  refine CW.region ?_
  refine LW.move rfl rfl ?_
  refine LW.call (bin_WInt W B ba5 v1 (encs [20750, serial, (ns.length : Int)]) ch1 ho1 ns hns src A cp hsrc (by have := encs_len [20750, serial, (ns.length : Int)]; simp at this; omega)) Tryd.func59 rfl FactsSlot1.fname59 ⟨rfl, rfl, trivial⟩ (Take.both (by repeat (first | exact Take.head _ _ | apply Take.tail)) (Take.both (by repeat (first | exact Take.head _ _ | apply Take.tail)) (by repeat (first | exact Take.head _ _ | apply Take.tail)))) rfl ?_
  rintro _ _ ⟨rfl, v2, ch2, ho2, rfl⟩; refine LW.split2 (LW.split2p ?_)
  refine LW.nil ?_
  refine NW.then_ ?_
  refine CW.seq ?_
  refine CW.region ?_
  refine LW.call (bin_WBytes W B ba5 v2 (slotX serial ns) ch2 ho2 (by omega)) Tryd.func60 rfl FactsSlot1.fname60 ⟨rfl, trivial⟩ (Take.both (by repeat (first | exact Take.head _ _ | apply Take.tail)) (by repeat (first | exact Take.head _ _ | apply Take.tail))) rfl ?_
  rintro v3 _ ⟨ch3, ho3, rfl⟩; refine LW.split2 ?_
  refine LW.appendZ (k := 64) rfl rfl Tryd.underlying31 Tryd.underlying3 FactsSlot1.info5 rfl rfl ho3 (by repeat (first | exact Take.head _ _ | apply Take.tail)) (by decide) (by omega) (by omega) rfl ?_
  intro v4 ch4 ho4; rw [show (slotX serial ns).map u8v ++ List.replicate 64 (Value.int .u8 0) = (slotX serial ns ++ List.replicate 64 0).map u8v from by rw [List.map_append, List.map_replicate]; rfl] at ho4; obtain ⟨A4, cp4, rfl, hA4, hc4⟩ := OwnS.val ho4
  refine LW.cut (0) (64) (cp4) none (some _) none rfl Tryd.underlying31 FactsSlot1.szt5 (fun a hf => rfl) (fun a hf => congrArg some (hf.eval rfl)) (fun a hf => rfl) (.inl ⟨rfl, rfl⟩) (.inr ⟨_, rfl⟩) (.inl ⟨rfl, rfl⟩) (by omega) (by omega) (by omega) (by omega) rfl ?_
  refine LW.assign rfl rfl ?_
  refine LW.nil ?_
  refine NW.then_ ?_
  refine CW.ret ?_
  refine NW.ret1 rfl rfl ⟨_, ⟨A4, cp4 - 0, ch4, by rw [cutA_zero'], by have h9 := (OwnS.src (W := W) (B := B) ho4).sub 64; rw [← List.map_take] at h9; exact h9, rfl⟩, ?_⟩
  exact Sub.take (by repeat (first | exact Take.head _ _ | apply Take.tail)) (Sub.one (by repeat (first | exact Take.head _ _ | apply Take.tail)))

theorem rdI_I64 {r r' : List UInt8 × Bool} {m : Int} (h : rdI r = (m, r')) : I64 m := by
  unfold rdI at h
  split at h
  · simp only [Prod.mk.injEq] at h; rw [← h.1]; exact ⟨by decide, by decide⟩
  · split at h
    · simp only [Prod.mk.injEq] at h; rw [← h.1]; exact ⟨by decide, by decide⟩
    · rename_i hg
      simp only [Prod.mk.injEq] at h; rw [← h.1]; exact (getZ_some hg).2.2
theorem slot_set (r : List UInt8 × Bool) (k j : Nat) (hj : j < k) : ((rdN j r).1.map i64v ++ List.replicate (k - j) (Value.int .i64 0)).set j (.int .i64 (rdI (rdN j r).2).1) = (rdN (j + 1) r).1.map i64v ++ List.replicate (k - (j + 1)) (Value.int .i64 0) := by
  have h1 : ((rdN j r).1.map i64v).length = j := by rw [List.length_map, rdN_len]
  rw [List.set_append_right _ _ (by rw [h1]; exact Nat.le_refl _), h1, Nat.sub_self, show k - j = (k - (j + 1)) + 1 by omega, List.replicate_succ, rdN_succ]
  simp [i64v]
set_option maxHeartbeats 1000000 in
theorem slot_get (p bn bw bl n : Nat) (s : DevS) (hs : s.Ok n) (i : Nat) (hi : i < n) :
    Spec Tryd.prog W B 58 [.pointer (some ⟨p, 0, none⟩), .int .i64 (i : Int)] (devC p bn bw bl n s)
      (fun v post => ∃ v2 ch, v = .tuple #[.int .i64 (slotGet (s.now.getD i []) (i : Int)).1, v2] ∧ OwnS 2 1 v2 (slotGet (s.now.getD i []) (i : Int)).2.length ((slotGet (s.now.getD i []) (i : Int)).2.map i64v) ch ∧ post = ch ++ devC p bn bw bl n s) := by
  have hbl : (s.now.getD i []).length = 64 := hs.now.get (hs.now.getD hi)
  have hrd := dev_Read W B p bn bw bl n s hs i hi
  have hz : ∀ m, (madeCells (Value.int .i64 0).cells (m * 1)).toList = List.replicate m (Value.int .i64 0) := fun m => by
    rw [Nat.mul_one]
    exact madeCells_rep _ _ _ (by intro x hx; simp [Value.cells] at hx; exact hx) (by simp [Value.cells])
  generalize s.now.getD i [] = b at hbl hrd ⊢
  obtain ⟨m0, r1, h1⟩ : ∃ m r, rdI (b, false) = (m, r) := ⟨_, _, rfl⟩
  obtain ⟨m1, r2, h2⟩ : ∃ m r, rdI r1 = (m, r) := ⟨_, _, rfl⟩
  obtain ⟨m2, r3, h3⟩ : ∃ m r, rdI r2 = (m, r) := ⟨_, _, rfl⟩
  have hl1 : r1.1.length ≤ 64 := by have := rdI_len h1; simp at this; omega
  have hl2 : r2.1.length ≤ 64 := by have := rdI_len h2; omega
  have hl3 : r3.1.length ≤ 64 := by have := rdI_len h3; omega
  have hhead : slotHead b = (m0, m1, m2, r3) := by unfold slotHead; rw [h1]; simp only []; rw [h2]; simp only []; rw [h3]
  have hI1 : I64 m1 := rdI_I64 h2
  have hno : slotFine (m0, m1, m2, r3) = false → slotGet b (i : Int) = (0, []) := fun h => by rw [slotGet, hhead, h]; rfl
  have hyes : slotFine (m0, m1, m2, r3) = true → slotGet b (i : Int) = if (rdN m2.toNat r3).2.2 = false ∧ m1.tmod 2 = (i : Int) then (m1, (rdN m2.toNat r3).1) else (0, []) := fun h => by rw [slotGet, hhead, if_pos h]
  have hfn : ∀ q, q = slotFine (m0, m1, m2, r3) → (q = true ↔ r3.2 = false ∧ m0 = 20750 ∧ 1 ≤ m1 ∧ 0 ≤ m2 ∧ m2 ≤ 4) := fun q hq => by subst hq; simp [slotFine, and_assoc]
  refine Spec.enter ([devC p bn bw bl n s]) Tryd.func58 rfl Tryd.ntmps58 rfl (by first | rfl | simp) (fun w0 => ?_)
  refine CW.seq ?_
  refine CW.region ?_
  refine LW.assign rfl rfl ?_
  refine LW.assign rfl rfl ?_
  refine LW.nil ?_
  refine NW.then_ ?_
  refine CW.seq ?_
  refine CW.region ?_
  refine LW.move rfl rfl ?_
  refine LW.move rfl rfl ?_
  refine LW.call (hrd) Tryd.func40 rfl FactsSlot1.fname40 ⟨rfl, rfl, trivial⟩ (by repeat (first | exact Take.head _ _ | apply Take.tail)) rfl ?_
  rintro _ _ ⟨q1, rfl, rfl⟩; refine LW.split1 ?_
  refine LW.move rfl rfl ?_
  refine LW.extract rfl rfl rfl ?_
  refine LW.extract rfl rfl rfl ?_
  refine LW.assign rfl rfl ?_
  refine LW.assign rfl rfl ?_
  refine LW.nil ?_
  refine NW.then_ ?_
  refine CW.seq ?_
  refine CW.region ?_
  refine LW.move rfl rfl ?_
  have hNR := bin_NewReader W B [cr q1 92 (b.map u8v)] (some ⟨q1, 0, none⟩) 64 b (Src.row (fun j v hj => by rw [Nat.zero_add]; exact hj)) (fun h => by cases h) (by omega)
  rw [hbl] at hNR
  refine LW.call (hNR) Tryd.func62 rfl FactsSlot1.fname62 ⟨rfl, trivial⟩ (by repeat (first | exact Take.head _ _ | apply Take.tail)) rfl ?_
  rintro _ _ ⟨rp, rv, rch, rfl, hrd0, rfl⟩; refine LW.split2 ?_
  refine LW.assign rfl rfl ?_
  refine LW.nil ?_
  refine NW.then_ ?_
  refine CW.seq ?_
  refine CW.region ?_
  refine LW.move rfl rfl ?_
  refine LW.call (bin_RIntQ W B rp rv (b, false) rch (fun _ => hrd0) (by show b.length ≤ _; omega) m0 r1 h1) Tryd.func64 rfl FactsSlot1.fname64 ⟨rfl, trivial⟩ (by repeat (first | exact Take.head _ _ | apply Take.tail)) rfl ?_
  rintro _ _ ⟨rfl, rv1, hq1, rfl⟩
  refine LW.eql _ rfl rfl rfl rfl ?_
  refine LW.move rfl rfl ?_
  refine LW.call (bin_RIntQ W B rp rv1 r1 rch hq1 (by omega) m1 r2 h2) Tryd.func64 rfl FactsSlot1.fname64 ⟨rfl, trivial⟩ (by repeat (first | exact Take.head _ _ | apply Take.tail)) rfl ?_
  rintro _ _ ⟨rfl, rv2, hq2, rfl⟩
  refine LW.move rfl rfl ?_
  refine LW.call (bin_RIntQ W B rp rv2 r2 rch hq2 (by omega) m2 r3 h3) Tryd.func64 rfl FactsSlot1.fname64 ⟨rfl, trivial⟩ (by repeat (first | exact Take.head _ _ | apply Take.tail)) rfl ?_
  rintro _ _ ⟨rfl, rv3, hq3, rfl⟩
  refine LW.assign rfl rfl ?_
  refine LW.assign rfl rfl ?_
  refine LW.assign rfl rfl ?_
  refine LW.nil ?_
  refine NW.then_ ?_
  refine CW.seq ?_
  refine CW.seq ?_
  refine CW.region ?_
  refine LW.move rfl rfl ?_
  refine LW.call (bin_Err W B rp rv3 r3.2 rch) Tryd.func70 rfl FactsSlot1.fname70 ⟨rfl, trivial⟩ (by repeat (first | exact Take.head _ _ | apply Take.tail)) rfl ?_
  rintro _ _ ⟨rfl, rfl⟩
  by_cases hb3 : r3.2 = true
  · refine LW.neq true rfl rfl (by rw [hb3]; rfl) rfl ?_
    refine LW.move rfl rfl ?_
    refine LW.off 32 rfl rfl rfl rfl ?_
    refine LW.off 32 rfl rfl rfl rfl ?_
    refine LW.pickT rfl rfl rfl ?_
    refine LW.move rfl rfl ?_
    refine LW.off 36 rfl rfl rfl rfl ?_
    refine LW.off 36 rfl rfl rfl rfl ?_
    refine LW.pickT rfl rfl rfl ?_
    refine LW.move rfl rfl ?_
    refine LW.off 40 rfl rfl rfl rfl ?_
    refine LW.off 40 rfl rfl rfl rfl ?_
    refine LW.pickT rfl rfl rfl ?_
    refine LW.move rfl rfl ?_
    refine LW.off 44 rfl rfl rfl rfl ?_
    refine LW.off 44 rfl rfl rfl rfl ?_
    refine LW.pickT rfl rfl rfl ?_
    refine LW.nil ?_
    refine NW.then_ ?_
    refine CW.cond_true rfl ?_
    refine CW.seq ?_
    have hgz := hno (Bool.eq_false_iff.2 (fun h => by have := ((hfn _ rfl).1 h).1; rw [hb3] at this; cases this))
    refine CW.region ?_
    refine LW.assign rfl rfl ?_
    refine LW.assign rfl rfl ?_
    refine LW.nil ?_
    refine NW.then_ ?_
    refine CW.ret ?_
    refine NW.then_ret ?_
    refine NW.ret2 rfl rfl rfl ⟨_, ⟨.slice none 0 0, [], by rw [hgz], by rw [hgz]; exact OwnS.nil, rfl⟩, ?_⟩
    exact Sub.one (by repeat (first | exact Take.head _ _ | apply Take.tail))
  · refine LW.neq false rfl rfl (by rw [Bool.eq_false_iff.2 hb3]; rfl) rfl ?_
    refine LW.move rfl rfl ?_
    refine LW.on 32 rfl rfl ?_
    refine LW.move rfl rfl ?_
    by_cases hm0 : m0 = 20750
    · refine LW.on 32 rfl rfl ?_
      refine LW.not (false) rfl (by rw [hm0]; rfl) rfl ?_
      refine LW.pickF rfl rfl rfl ?_
      refine LW.move rfl rfl ?_
      refine LW.on 36 rfl rfl ?_
      refine LW.move rfl rfl ?_
      by_cases hm1 : m1 < 1
      · refine LW.on 36 rfl rfl ?_
        refine LW.lss true rfl rfl (decide_eq_true (by omega)) rfl ?_
        refine LW.pickF rfl rfl rfl ?_
        refine LW.move rfl rfl ?_
        refine LW.off 40 rfl rfl rfl rfl ?_
        refine LW.off 40 rfl rfl rfl rfl ?_
        refine LW.pickT rfl rfl rfl ?_
        refine LW.move rfl rfl ?_
        refine LW.off 44 rfl rfl rfl rfl ?_
        refine LW.off 44 rfl rfl rfl rfl ?_
        refine LW.pickT rfl rfl rfl ?_
        refine LW.nil ?_
        refine NW.then_ ?_
        refine CW.cond_true rfl ?_
        refine CW.seq ?_
        have hgz := hno (Bool.eq_false_iff.2 (fun h => by have := (hfn _ rfl).1 h; omega))
        refine CW.region ?_
        refine LW.assign rfl rfl ?_
        refine LW.assign rfl rfl ?_
        refine LW.nil ?_
        refine NW.then_ ?_
        refine CW.ret ?_
        refine NW.then_ret ?_
        refine NW.ret2 rfl rfl rfl ⟨_, ⟨.slice none 0 0, [], by rw [hgz], by rw [hgz]; exact OwnS.nil, rfl⟩, ?_⟩
        exact Sub.one (by repeat (first | exact Take.head _ _ | apply Take.tail))
      · refine LW.on 36 rfl rfl ?_
        refine LW.lss false rfl rfl (decide_eq_false (by omega)) rfl ?_
        refine LW.pickF rfl rfl rfl ?_
        refine LW.move rfl rfl ?_
        refine LW.on 40 rfl rfl ?_
        refine LW.move rfl rfl ?_
        by_cases hm2 : m2 < 0
        · refine LW.on 40 rfl rfl ?_
          refine LW.lss true rfl rfl (decide_eq_true (by omega)) rfl ?_
          refine LW.pickF rfl rfl rfl ?_
          refine LW.move rfl rfl ?_
          refine LW.off 44 rfl rfl rfl rfl ?_
          refine LW.off 44 rfl rfl rfl rfl ?_
          refine LW.pickT rfl rfl rfl ?_
          refine LW.nil ?_
          refine NW.then_ ?_
          refine CW.cond_true rfl ?_
          refine CW.seq ?_
          have hgz := hno (Bool.eq_false_iff.2 (fun h => by have := (hfn _ rfl).1 h; omega))
          refine CW.region ?_
          refine LW.assign rfl rfl ?_
          refine LW.assign rfl rfl ?_
          refine LW.nil ?_
          refine NW.then_ ?_
          refine CW.ret ?_
          refine NW.then_ret ?_
          refine NW.ret2 rfl rfl rfl ⟨_, ⟨.slice none 0 0, [], by rw [hgz], by rw [hgz]; exact OwnS.nil, rfl⟩, ?_⟩
          exact Sub.one (by repeat (first | exact Take.head _ _ | apply Take.tail))
        · refine LW.on 40 rfl rfl ?_
          refine LW.lss false rfl rfl (decide_eq_false (by omega)) rfl ?_
          refine LW.pickF rfl rfl rfl ?_
          refine LW.move rfl rfl ?_
          refine LW.on 44 rfl rfl ?_
          refine LW.move rfl rfl ?_
          by_cases hm3 : 4 < m2
          · refine LW.on 44 rfl rfl ?_
            refine LW.gtr true rfl rfl (decide_eq_true (by omega)) rfl ?_
            refine LW.pickF rfl rfl rfl ?_
            refine LW.nil ?_
            refine NW.then_ ?_
            refine CW.cond_true rfl ?_
            refine CW.seq ?_
            have hgz := hno (Bool.eq_false_iff.2 (fun h => by have := (hfn _ rfl).1 h; omega))
            refine CW.region ?_
            refine LW.assign rfl rfl ?_
            refine LW.assign rfl rfl ?_
            refine LW.nil ?_
            refine NW.then_ ?_
            refine CW.ret ?_
            refine NW.then_ret ?_
            refine NW.ret2 rfl rfl rfl ⟨_, ⟨.slice none 0 0, [], by rw [hgz], by rw [hgz]; exact OwnS.nil, rfl⟩, ?_⟩
            exact Sub.one (by repeat (first | exact Take.head _ _ | apply Take.tail))
          · refine LW.on 44 rfl rfl ?_
            refine LW.gtr false rfl rfl (decide_eq_false (by omega)) rfl ?_
            refine LW.pickF rfl rfl rfl ?_
            refine LW.nil ?_
            refine NW.then_ ?_
            refine CW.cond_false rfl ?_
            refine CW.skip ?_
            refine NW.then_ ?_
            refine CW.seq ?_
            obtain ⟨k4, rfl⟩ : ∃ k : Nat, m2 = (k : Int) := ⟨m2.toNat, by omega⟩
            have hgz := hyes ((hfn _ rfl).2 ⟨Bool.eq_false_iff.2 hb3, hm0, by omega, by omega, by omega⟩)
            rw [Int.toNat_natCast] at hgz
            refine CW.region ?_
            refine LW.move rfl rfl ?_
            refine LW.make (k4) (k4) (List.replicate k4 (Value.int .i64 0)) rfl rfl (by first | rfl | omega) (by first | rfl | omega) Tryd.underlying47 FactsSlot1.info2 (by omega) (by omega) (by omega) (hz k4) rfl ?_
            intro bm49
            refine LW.assign rfl rfl ?_
            refine LW.nil ?_
            refine NW.then_ ?_
            refine CW.seq ?_
            refine CW.seq ?_
            refine CW.region ?_
            refine LW.move rfl rfl ?_
            refine LW.lenSlice rfl Tryd.underlying47 rfl ?_
            refine LW.move rfl rfl ?_
            refine LW.nil ?_
            refine NW.then_ ?_
            refine CW.block ?_
            refine CW.loop (fun st : Nat × Value => [(52, .int .i64 (st.1 : Int)), (51, .int .i64 (k4 : Int)), (12, .slice (some ⟨bm49, 0, none⟩) k4 k4), (10, .int .i64 m1), (8, .pointer (some ⟨rp, 0, none⟩)), (1, .int .i64 (i : Int))]) (fun st => [[cr bm49 2 ((rdN st.1 r3).1.map i64v ++ List.replicate (k4 - st.1) (Value.int .i64 0))], [cr rp 121 [st.2, .bool (rdN st.1 r3).2.2]] ++ rch, devC p bn bw bl n s]) (fun st => st.1 ≤ k4 ∧ RdQ W B st.2 (rdN st.1 r3).2 rch) (fun st => k4 - st.1) (0, rv3) ?st8_j ?st8_e ?st8_h ?st8_r
            case st8_j => exact ⟨Nat.zero_le _, hq3⟩
            case st8_e => repeat (first | exact Env.Le.nil _ | refine Env.Le.cons rfl ?_)
            case st8_h => repeat (first | exact Sub.heap_nil _ | exact Sub.refl _ | refine Sub.heap_cons (Take.none _) ?_ | refine Sub.heap_cons (by repeat (first | exact Take.head _ _ | apply Take.tail)) ?_)
            case st8_r =>
              rintro ⟨j, v⟩ ⟨hj, hqj⟩; dsimp only at hj hqj
              try dsimp only
              refine CW.seq ?_
              refine CW.region ?_
              refine LW.lss _ rfl rfl rfl rfl ?_
              refine LW.nil ?_
              refine NW.then_ ?_
              refine CW.seq ?_
              refine CW.cond rfl (fun hc53 => ?_) (fun hc53 => ?_)
              · replace hc53 := of_decide_eq_true hc53
                try dsimp only at hc53
                have hjk : j < k4 := by omega
                have hlj := rdN_left j r3
                refine CW.skip ?_
                refine NW.then_ ?_
                refine CW.seq ?_
                refine CW.block ?_
                refine CW.seq ?_
                refine CW.region ?_
                refine LW.move rfl rfl ?_
                refine LW.assign rfl rfl ?_
                refine LW.nil ?_
                refine NW.then_ ?_
                refine CW.region ?_
                refine LW.move rfl rfl ?_
                refine LW.move rfl rfl ?_
                refine LW.move rfl rfl ?_
                refine LW.call (bin_RIntQ W B rp v (rdN j r3).2 rch hqj (by omega) (rdI (rdN j r3).2).1 (rdI (rdN j r3).2).2 rfl) Tryd.func64 rfl FactsSlot1.fname64 ⟨rfl, trivial⟩ (by repeat (first | exact Take.head _ _ | apply Take.tail)) rfl ?_
                rintro _ _ ⟨rfl, v', hqj', rfl⟩
                refine LW.indexAddr (j) rfl rfl Tryd.underlying47 FactsSlot1.ixs47 (by omega) (by omega) (by simp) rfl ?_
                refine LW.store rfl rfl (by repeat (first | exact Take.head _ _ | apply Take.tail)) (by rw [List.length_append, List.length_map, rdN_len, List.length_replicate]; omega) FactsSlot1.sz2 (rfl) ?_
                rw [slot_set r3 k4 j hjk]
                refine LW.nil ?_
                refine NW.block ?_
                refine NW.then_ ?_
                refine CW.region ?_
                refine LW.add64 rfl rfl (by omega) (by omega) rfl ?_
                refine LW.move rfl rfl ?_
                refine LW.nil ?_
                refine NW.meet ((j + 1, v')) ?j1 ?e1 ?h1
                case j1 => exact ⟨⟨by omega, by rw [rdN_succ]; exact hqj'⟩, by dsimp only; omega⟩
                case e1 => repeat (first | exact Env.Le.nil _ | refine Env.Le.cons rfl ?_)
                case h1 => rw [show (rdI (rdN j r3).2).2 = (rdN (j + 1) r3).2 from by rw [rdN_succ]]; repeat (first | exact Sub.heap_nil _ | exact Sub.refl _ | refine Sub.heap_cons (Take.none _) ?_ | refine Sub.heap_cons (by repeat (first | exact Take.head _ _ | apply Take.tail)) ?_)
              · replace hc53 := of_decide_eq_false hc53
                try dsimp only at hc53
                have hjk : j = k4 := by omega
                subst hjk
                refine CW.exit ?_
                refine NW.then_exit ?_
                refine NW.then_exit ?_
                refine NW.block_exit ?_
                refine NW.then_ ?_
                refine CW.seq ?_
                refine CW.seq ?_
                refine CW.region ?_
                refine LW.move rfl rfl ?_
                refine LW.call (bin_Err W B rp v (rdN j r3).2.2 rch) Tryd.func70 rfl FactsSlot1.fname70 ⟨rfl, trivial⟩ (by repeat (first | exact Take.head _ _ | apply Take.tail)) rfl ?_
                rintro _ _ ⟨rfl, rfl⟩
                by_cases hbj : (rdN j r3).2.2 = true
                · refine LW.neq true rfl rfl (by rw [hbj]; rfl) rfl ?_
                  refine LW.move rfl rfl ?_
                  refine LW.off 64 rfl rfl rfl rfl ?_
                  refine LW.off 64 rfl rfl rfl rfl ?_
                  refine LW.off 64 rfl rfl rfl rfl ?_
                  refine LW.off 64 rfl rfl rfl rfl ?_
                  refine LW.pickT rfl rfl rfl ?_
                  refine LW.nil ?_
                  refine NW.then_ ?_
                  refine CW.cond_true rfl ?_
                  refine CW.seq ?_
                  have hgz2 : slotGet b (i : Int) = (0, []) := by rw [hgz, if_neg (fun h => by rw [hbj] at h; cases h.1)]
                  refine CW.region ?_
                  refine LW.assign rfl rfl ?_
                  refine LW.assign rfl rfl ?_
                  refine LW.nil ?_
                  refine NW.then_ ?_
                  refine CW.ret ?_
                  refine NW.then_ret ?_
                  refine NW.ret2 rfl rfl rfl ⟨_, ⟨.slice none 0 0, [], by rw [hgz2], by rw [hgz2]; exact OwnS.nil, rfl⟩, ?_⟩
                  exact Sub.one (by repeat (first | exact Take.head _ _ | apply Take.tail))
                · refine LW.neq false rfl rfl (by rw [Bool.eq_false_iff.2 hbj]; rfl) rfl ?_
                  refine LW.move rfl rfl ?_
                  refine LW.on 64 rfl rfl ?_
                  refine LW.move rfl rfl ?_
                  refine LW.on 64 rfl rfl ?_
                  refine LW.rem (m1.tmod 2) rfl rfl (by decide) (rfl) rfl ?_
                  refine LW.on 64 rfl rfl ?_
                  refine LW.move rfl rfl ?_
                  by_cases hmi : m1.tmod 2 = (i : Int)
                  · refine LW.on 64 rfl rfl ?_
                    refine LW.neq false rfl rfl (bne_eq_false_iff_eq.2 (by omega)) rfl ?_
                    refine LW.pickF rfl rfl rfl ?_
                    refine LW.nil ?_
                    refine NW.then_ ?_
                    refine CW.cond_false rfl ?_
                    refine CW.skip ?_
                    refine NW.then_ ?_
                    refine CW.seq ?_
                    have hgz2 : slotGet b (i : Int) = (m1, (rdN j r3).1) := by rw [hgz, if_pos ⟨Bool.eq_false_iff.2 hbj, hmi⟩]
                    have hln := rdN_len j r3
                    refine CW.region ?_
                    refine LW.move rfl rfl ?_
                    refine LW.move rfl rfl ?_
                    refine LW.assign rfl rfl ?_
                    refine LW.assign rfl rfl ?_
                    refine LW.nil ?_
                    refine NW.then_ ?_
                    refine CW.ret ?_
                    refine NW.ret2 rfl rfl rfl ⟨_, ⟨_, _, by rw [hgz2], by rw [hgz2, hln]; exact OwnS.row (by rw [List.length_map, hln, Nat.mul_one]), rfl⟩, ?_⟩
                    rw [Nat.sub_self, List.replicate_zero, List.append_nil]; exact Sub.take (p := [_]) (by repeat (first | exact Take.head _ _ | apply Take.tail)) (Sub.one (by repeat (first | exact Take.head _ _ | apply Take.tail)))
                  · refine LW.on 64 rfl rfl ?_
                    refine LW.neq true rfl rfl (bne_iff_ne.2 (by omega)) rfl ?_
                    refine LW.pickF rfl rfl rfl ?_
                    refine LW.nil ?_
                    refine NW.then_ ?_
                    refine CW.cond_true rfl ?_
                    refine CW.seq ?_
                    have hgz2 : slotGet b (i : Int) = (0, []) := by rw [hgz, if_neg (fun h => hmi h.2)]
                    refine CW.region ?_
                    refine LW.assign rfl rfl ?_
                    refine LW.assign rfl rfl ?_
                    refine LW.nil ?_
                    refine NW.then_ ?_
                    refine CW.ret ?_
                    refine NW.then_ret ?_
                    refine NW.ret2 rfl rfl rfl ⟨_, ⟨.slice none 0 0, [], by rw [hgz2], by rw [hgz2]; exact OwnS.nil, rfl⟩, ?_⟩
                    exact Sub.one (by repeat (first | exact Take.head _ _ | apply Take.tail))
    · refine LW.on 32 rfl rfl ?_
      refine LW.not (true) rfl (by rw [beq_eq_false_iff_ne.2 hm0]; rfl) rfl ?_
      refine LW.pickF rfl rfl rfl ?_
      refine LW.move rfl rfl ?_
      refine LW.off 36 rfl rfl rfl rfl ?_
      refine LW.off 36 rfl rfl rfl rfl ?_
      refine LW.pickT rfl rfl rfl ?_
      refine LW.move rfl rfl ?_
      refine LW.off 40 rfl rfl rfl rfl ?_
      refine LW.off 40 rfl rfl rfl rfl ?_
      refine LW.pickT rfl rfl rfl ?_
      refine LW.move rfl rfl ?_
      refine LW.off 44 rfl rfl rfl rfl ?_
      refine LW.off 44 rfl rfl rfl rfl ?_
      refine LW.pickT rfl rfl rfl ?_
      refine LW.nil ?_
      refine NW.then_ ?_
      refine CW.cond_true rfl ?_
      refine CW.seq ?_
      have hgz := hno (Bool.eq_false_iff.2 (fun h => hm0 ((hfn _ rfl).1 h).2.1))
      refine CW.region ?_
      refine LW.assign rfl rfl ?_
      refine LW.assign rfl rfl ?_
      refine LW.nil ?_
      refine NW.then_ ?_
      refine CW.ret ?_
      refine NW.then_ret ?_
      refine NW.ret2 rfl rfl rfl ⟨_, ⟨.slice none 0 0, [], by rw [hgz], by rw [hgz]; exact OwnS.nil, rfl⟩, ?_⟩
      exact Sub.one (by repeat (first | exact Take.head _ _ | apply Take.tail))
end
end Go.Proofs.YtpnhonhjheahhaaDoor
