/-
  DevFuse, DevBad: walked.
-/
import Derived.Test.YtmgpldgldgdenaaDoorLawOwn
import Derived.Test.YtmgpldgldgdenaaDoorOps2
namespace Go.Proofs.YtmgpldgldgdenaaDoor
open Go.RowKit
namespace FactsLawFuse
theorem fname16 : (Tryd.f16.name == "runtime.NumGoroutine") = false := by kernel_rfl
theorem fname17 : (Tryd.f17.name == "runtime.NumGoroutine") = false := by kernel_rfl
theorem fname18 : (Tryd.f18.name == "runtime.NumGoroutine") = false := by kernel_rfl
theorem fname19 : (Tryd.f19.name == "runtime.NumGoroutine") = false := by kernel_rfl
theorem fname20 : (Tryd.f20.name == "runtime.NumGoroutine") = false := by kernel_rfl
theorem fname21 : (Tryd.f21.name == "runtime.NumGoroutine") = false := by kernel_rfl
theorem fname23 : (Tryd.f23.name == "runtime.NumGoroutine") = false := by kernel_rfl
theorem fname36 : (Tryd.f36.name == "runtime.NumGoroutine") = false := by kernel_rfl
theorem fname40 : (Tryd.f40.name == "runtime.NumGoroutine") = false := by kernel_rfl
theorem fname45 : (Tryd.f45.name == "runtime.NumGoroutine") = false := by kernel_rfl
end FactsLawFuse
/-- So many calls are left. -/
structure Burning (f k : Nat) (s : DevS) : Prop where
  ok : s.Ok 64
  fused : s.fused = true
  fuse : s.fuse = (f : Int) - (k : Int)
  down : s.down = decide (f ≤ k)
theorem Burning.start (f : Nat) (hf : f ≤ 1000) : Burning f 0 ((DevS.zero 64).blow (f : Int)) :=
  ⟨(DevS.Ok.zero (by decide) (by decide)).blow (by omega) (by omega), rfl, by simp [DevS.blow], by simp [DevS.blow, DevS.zero]⟩
theorem Burning.step {f k : Nat} {s s' : DevS} (h : Burning f k s) (hk : k < f) (ok : s'.Ok 64) (hs : s'.fused = true) (hf : s'.fuse = s.fuse - 1) (hd : s'.down = decide (s.fuse - 1 ≤ 0)) : Burning f (k + 1) s' :=
  ⟨ok, hs, by rw [hf, h.fuse]; omega, by rw [hd, h.fuse]; exact decide_eq_decide.2 (by omega)⟩
theorem Burning.alive {f k : Nat} {s : DevS} (h : Burning f k s) (hk : k < f) : s.down = false := by rw [h.down]; exact decide_eq_false (by omega)
theorem Burning.flush {f k : Nat} {s : DevS} (h : Burning f k s) (hk : k < f) : Burning f (k + 1) (s.flush 64) := by
  have hd := h.alive hk
  have e1 : s.flush 64 = (s.saved 64).burn := by simp [DevS.flush, hd]
  have e2 : (s.saved 64).burn = { s.saved 64 with fuse := s.fuse - 1, down := decide (s.fuse - 1 ≤ 0) } := by simp [DevS.burn, DevS.saved, h.fused]
  exact h.step hk (h.ok.flush) (by rw [e1, e2]; exact h.fused) (by rw [e1, e2]) (by rw [e1, e2])
theorem Burning.put {f k : Nat} {s : DevS} (h : Burning f k s) (hk : k < f) {i : Nat} {b : List UInt8} (hb : b.length = 64) : Burning f (k + 1) (s.put i b).burn := by
  have hd := h.alive hk
  have e2 : (s.put i b).burn = { s.put i b with fuse := s.fuse - 1, down := decide (s.fuse - 1 ≤ 0) } := by simp [DevS.burn, DevS.put, h.fused]
  exact h.step hk ((h.ok.put hb).burn hd) (by rw [e2]; exact h.fused) (by rw [e2]) (by rw [e2])
section
variable (W : World) (B : Nat)
theorem law_errOf (b : Bool) : Spec Tryd.prog W B 45 [.bool b] [] (fun v post => v = .int .i64 (if b then 9 else 2) ∧ post = []) := by
  refine Spec.enter ([]) Tryd.func45 rfl Tryd.ntmps45 rfl (by first | rfl | simp) (fun w0 => ?_)
  refine CW.seq ?_
  refine CW.region ?_
  refine LW.assign rfl rfl ?_
  refine LW.nil ?_
  refine NW.then_ ?_
  refine CW.seq ?_
  refine CW.seq ?_
  refine CW.region ?_
  refine LW.move rfl rfl ?_
  refine LW.nil ?_
  refine NW.then_ ?_
  refine CW.cond rfl (fun hc3 => ?_) (fun hc3 => ?_)
  · refine CW.seq ?_
    refine CW.region ?_
    refine LW.assign rfl rfl ?_
    refine LW.nil ?_
    refine NW.then_ ?_
    refine CW.ret ?_
    refine NW.then_ret ?_
    refine NW.ret1 rfl rfl ⟨_, ⟨by rw [hc3]; rfl, rfl⟩, ?_⟩
    exact Sub.nil _
  · refine CW.skip ?_
    refine NW.then_ ?_
    refine CW.seq ?_
    refine CW.region ?_
    refine LW.assign rfl rfl ?_
    refine LW.nil ?_
    refine NW.then_ ?_
    refine CW.ret ?_
    refine NW.ret1 rfl rfl ⟨_, ⟨by rw [hc3]; rfl, rfl⟩, ?_⟩
    exact Sub.nil _

theorem law_DevFuse (h0 : 0 < B) (hg : W.cell? ⟨0, 0, none⟩ = some (rty 80)) (n kind : Int) :
    Spec Tryd.prog W B 12 [.int .i64 n, .int .i64 kind] [] (fun v post => v = .bool true ∧ post = []) := by
  obtain ⟨f, hf, hf20, hn1, hn2⟩ := mod_pos n 20 (by decide) (by decide)
  have hk0 : (DevS.zero 64).Ok 64 := DevS.Ok.zero (by decide) (by decide)
  refine Spec.enter ([]) Tryd.func12 rfl Tryd.ntmps12 rfl (by first | rfl | simp) (fun w0 => ?_)
  refine CW.seq ?_
  refine CW.region ?_
  refine LW.assign rfl rfl ?_
  refine LW.nil ?_
  refine NW.then_ ?_
  refine CW.seq ?_
  refine CW.region ?_
  refine LW.call (law_begun W B h0 hg) Tryd.func16 rfl FactsLawFuse.fname16 trivial (Take.none _) rfl ?_
  rintro _ _ ⟨rfl, rfl⟩
  refine LW.assign rfl rfl ?_
  refine LW.nil ?_
  refine NW.then_ ?_
  refine CW.seq ?_
  refine CW.seq ?_
  refine CW.region ?_
  refine LW.move rfl rfl ?_
  refine LW.not (false) rfl (rfl) rfl ?_
  refine LW.nil ?_
  refine NW.then_ ?_
  refine CW.cond_false rfl ?_
  refine CW.skip ?_
  refine NW.then_ ?_
  refine CW.seq ?_
  refine CW.region ?_
  refine LW.move rfl rfl ?_
  refine LW.rem (n.tmod 20) rfl rfl (by decide) (rfl) rfl ?_
  refine LW.add (n.tmod 20 + 20) rfl rfl (by first | rfl | exact wr64 (by omega) (by omega) (by omega)) rfl ?_
  refine LW.rem ((f : Int)) rfl rfl (by decide) (hf) rfl ?_
  refine LW.assign rfl rfl ?_
  refine LW.nil ?_
  refine NW.then_ ?_
  refine CW.seq ?_
  refine CW.region ?_
  refine LW.call (dev_New W B 64 (by decide) (by decide)) Tryd.func17 rfl FactsLawFuse.fname17 ⟨rfl, trivial⟩ (Take.none _) rfl ?_
  rintro _ _ ⟨p, bn, bw, bl, rfl, rfl⟩
  refine LW.assign rfl rfl ?_
  refine LW.nil ?_
  refine NW.then_ ?_
  refine CW.seq ?_
  refine CW.region ?_
  refine LW.move rfl rfl ?_
  refine LW.move rfl rfl ?_
  refine LW.call (dev_Fuse W B p bn bw bl 64 (DevS.zero 64) (f : Int)) Tryd.func40 rfl FactsLawFuse.fname40 ⟨rfl, rfl, trivial⟩ (by repeat (first | exact Take.head _ _ | apply Take.tail)) rfl ?_
  rintro _ _ ⟨rfl, rfl⟩
  refine LW.nil ?_
  refine NW.then_ ?_
  refine CW.seq ?_
  refine CW.seq ?_
  refine CW.region ?_
  refine LW.assign rfl rfl ?_
  refine LW.nil ?_
  refine NW.then_ ?_
  refine CW.block ?_
  refine CW.loop (fun st : Nat × DevS => [(7, .int .i64 (st.1 : Int)), (6, .pointer (some ⟨p, 0, none⟩)), (0, .int .i64 (f : Int)), (1, .int .i64 kind)]) (fun st => [devC p bn bw bl 64 st.2]) (fun st => st.1 ≤ f ∧ Burning f st.1 st.2) (fun st => f - st.1) (0, (DevS.zero 64).blow (f : Int)) ?st8_j ?st8_e ?st8_h ?st8_r
  case st8_j => exact ⟨Nat.zero_le _, Burning.start f (by omega)⟩
  case st8_e => repeat (first | exact Env.Le.nil _ | refine Env.Le.cons rfl ?_)
  case st8_h => repeat (first | exact Sub.heap_nil _ | exact Sub.refl _ | refine Sub.heap_cons (by repeat (first | exact Take.head _ _ | apply Take.tail)) ?_)
  case st8_r =>
    rintro ⟨i, s⟩ ⟨hi, hs⟩; dsimp only at hi hs
    refine CW.seq ?_
    refine CW.seq ?_
    refine CW.region ?_
    refine LW.move rfl rfl ?_
    refine LW.move rfl rfl ?_
    refine LW.lss (decide ((i : Int) < (f : Int))) rfl rfl (rfl) rfl ?_
    refine LW.nil ?_
    refine NW.then_ ?_
    refine CW.cond rfl (fun hc25 => ?_) (fun hc25 => ?_)
    · have hin : i < f := by simpa using hc25
      have hd := hs.alive hin
      have hfe : s.flushE = 0 := by simp [DevS.flushE, hd]
      refine CW.skip ?_
      refine NW.then_ ?_
      refine CW.seq ?_
      refine CW.block ?_
      refine CW.seq ?_
      refine CW.region ?_
      refine LW.assign rfl rfl ?_
      refine LW.nil ?_
      refine NW.then_ ?_
      refine CW.cut (fun _ : DevS => [(8, .int .i64 0), (7, .int .i64 (i : Int)), (6, .pointer (some ⟨p, 0, none⟩)), (0, .int .i64 (f : Int)), (1, .int .i64 kind)]) (fun s' => [devC p bn bw bl 64 s']) (fun s' => Burning f (i + 1) s') ?cut14_1 ?cut14_2
      case cut14_1 =>
        refine CW.seq ?_
        refine CW.region ?_
        refine LW.move rfl rfl ?_
        refine LW.move rfl rfl ?_
        refine LW.add _ rfl rfl rfl rfl ?_
        refine LW.rem _ rfl rfl (by decide) rfl rfl ?_
        refine LW.eql ((IntKind.i64.wrap ((i : Int) + kind)).tmod 3 == 0) rfl rfl (rfl) rfl ?_
        refine LW.nil ?_
        refine NW.then_ ?_
        refine CW.cond rfl (fun hc32 => ?_) (fun hc32 => ?_)
        · refine CW.region ?_
          refine LW.move rfl rfl ?_
          refine LW.call (dev_Flush W B p bn bw bl 64 s hs.ok) Tryd.func36 rfl FactsLawFuse.fname36 ⟨rfl, trivial⟩ (by repeat (first | exact Take.head _ _ | apply Take.tail)) rfl ?_
          rintro _ _ ⟨rfl, rfl⟩; rw [hfe]
          refine LW.assign rfl rfl ?_
          refine LW.nil ?_
          refine NW.meet (s.flush 64) ?j1 ?e1 ?h1
          case j1 => exact hs.flush hin
          case e1 => repeat (first | exact Env.Le.nil _ | refine Env.Le.cons rfl ?_)
          case h1 => repeat (first | exact Sub.heap_nil _ | exact Sub.refl _ | refine Sub.heap_cons (by repeat (first | exact Take.head _ _ | apply Take.tail)) ?_)
        · refine CW.region ?_
          refine LW.move rfl rfl ?_
          refine LW.move rfl rfl ?_
          refine LW.move rfl rfl ?_
          refine LW.add ((i + 1 : Int)) rfl rfl (by first | rfl | exact wr64 (by omega) (by omega) (by omega)) rfl ?_
          refine LW.convInt (((UInt8.ofNat ((i + 1 : Int) % 256).toNat).toNat : Int)) rfl Tryd.underlying3 Tryd.underlying5 (wrap_u8 _) rfl ?_
          refine LW.call (law_Bytes W B (UInt8.ofNat ((i + 1 : Int) % 256).toNat)) Tryd.func18 rfl FactsLawFuse.fname18 ⟨rfl, trivial⟩ (Take.none _) rfl ?_
          rintro _ _ ⟨b1, rfl, rfl⟩
          refine LW.call (dev_Write_ok W B p bn bw bl 64 s hs.ok i (by omega) hd [cr b1 5 ((bytes (UInt8.ofNat ((i + 1 : Int) % 256).toNat)).map u8v)] (some ⟨b1, 0, none⟩) 64 (bytes (UInt8.ofNat ((i + 1 : Int) % 256).toNat)) (bytes_len _) (Src.row (fun j v hj => by rw [Nat.zero_add]; exact hj))) Tryd.func19 rfl FactsLawFuse.fname19 ⟨rfl, rfl, rfl, trivial⟩ (Take.both (by repeat (first | exact Take.head _ _ | apply Take.tail)) (by repeat (first | exact Take.head _ _ | apply Take.tail))) rfl ?_
          rintro _ _ ⟨rfl, rfl⟩; refine LW.split2 ?_
          refine LW.assign rfl rfl ?_
          refine LW.nil ?_
          refine NW.meet ((s.put i (bytes (UInt8.ofNat ((i + 1 : Int) % 256).toNat))).burn) ?j2 ?e2 ?h2
          case j2 => exact hs.put hin (bytes_len _)
          case e2 => repeat (first | exact Env.Le.nil _ | refine Env.Le.cons rfl ?_)
          case h2 => repeat (first | exact Sub.heap_nil _ | exact Sub.refl _ | refine Sub.heap_cons (by repeat (first | exact Take.head _ _ | apply Take.tail)) ?_)
      case cut14_2 =>
        intro s' hs'
        refine CW.seq ?_
        have he99 : s'.err 64 99 64 = if ((i : Int) == (f : Int) - 1) then 9 else 2 := by
          have hq : ((i : Int) == (f : Int) - 1) = decide (f ≤ i + 1) := by
            by_cases hh : f ≤ i + 1
            · simp [hh]; omega
            · simp [hh]; omega
          rw [hq, DevS.err, hs'.down, show isB 64 99 = false from rfl]
          rfl
        refine CW.region ?_
        refine LW.move rfl rfl ?_
        refine LW.neq false rfl rfl (rfl) rfl ?_
        refine LW.move rfl rfl ?_
        refine LW.on 44 rfl rfl ?_
        refine LW.move rfl rfl ?_
        refine LW.on 44 rfl rfl ?_
        refine LW.call (law_Bytes W B 1) Tryd.func18 rfl FactsLawFuse.fname18 ⟨rfl, trivial⟩ (Take.none _) rfl ?_
        rintro _ _ ⟨b2, rfl, rfl⟩
        refine LW.on 44 rfl rfl ?_
        refine LW.call (dev_Write_no W B p bn bw bl 64 s' 99 (some ⟨b2, 0, none⟩) 64 64 (by rw [he99]; split <;> decide)) Tryd.func19 rfl FactsLawFuse.fname19 ⟨rfl, rfl, rfl, trivial⟩ (by repeat (first | exact Take.head _ _ | apply Take.tail)) rfl ?_
        rintro _ _ ⟨rfl, rfl⟩; rw [he99]
        refine LW.on 44 rfl rfl ?_
        refine LW.move rfl rfl ?_
        refine LW.on 44 rfl rfl ?_
        refine LW.move rfl rfl ?_
        refine LW.on 44 rfl rfl ?_
        refine LW.sub ((f : Int) - 1) rfl rfl (by first | rfl | exact wr64 (by omega) (by omega) (by omega)) rfl ?_
        refine LW.on 44 rfl rfl ?_
        refine LW.eql ((i : Int) == (f : Int) - 1) rfl rfl (rfl) rfl ?_
        refine LW.on 44 rfl rfl ?_
        refine LW.call (law_errOf W B ((i : Int) == (f : Int) - 1)) Tryd.func45 rfl FactsLawFuse.fname45 ⟨rfl, trivial⟩ (Take.none _) rfl ?_
        rintro _ _ ⟨rfl, rfl⟩
        refine LW.on 44 rfl rfl ?_
        refine LW.neq false rfl rfl (by simp) rfl ?_
        refine LW.pickF rfl rfl rfl ?_
        refine LW.nil ?_
        refine NW.then_ ?_
        refine CW.cond_false rfl ?_
        refine CW.skip ?_
        refine NW.block ?_
        refine NW.then_ ?_
        refine CW.region ?_
        refine LW.move rfl rfl ?_
        refine LW.add ((i + 1 : Int)) rfl rfl (by first | rfl | exact wr64 (by omega) (by omega) (by omega)) rfl ?_
        refine LW.assign rfl rfl ?_
        refine LW.nil ?_
        refine NW.meet ((i + 1, s')) ?j3 ?e3 ?h3
        case j3 => exact ⟨⟨hin, hs'⟩, by dsimp only; omega⟩
        case e3 => repeat (first | exact Env.Le.nil _ | refine Env.Le.cons rfl ?_)
        case h3 => repeat (first | exact Sub.heap_nil _ | exact Sub.refl _ | refine Sub.heap_cons (by repeat (first | exact Take.head _ _ | apply Take.tail)) ?_)
    · have hie : i = f := by have := of_decide_eq_false hc25; omega
      subst hie
      have hdn : s.down = true := by rw [hs.down]; simp
      have hfe : s.flushE = 9 := by simp [DevS.flushE, hdn]
      have he1 : s.err 64 1 64 = 9 := by simp [DevS.err, hdn]
      refine CW.exit ?_
      refine NW.then_exit ?_
      refine NW.then_exit ?_
      refine NW.block_exit ?_
      refine NW.then_ ?_
      refine CW.seq ?_
      refine CW.region ?_
      refine LW.move rfl rfl ?_
      refine LW.call (dev_Read W B p bn bw bl 64 s hs.ok 0 (by decide)) Tryd.func20 rfl FactsLawFuse.fname20 ⟨rfl, rfl, trivial⟩ (by repeat (first | exact Take.head _ _ | apply Take.tail)) rfl ?_
      rintro _ _ ⟨q1, rfl, rfl⟩; refine LW.split1 ?_
      refine LW.move rfl rfl ?_
      refine LW.extract rfl rfl rfl ?_
      refine LW.extract rfl rfl rfl ?_
      refine LW.assign rfl rfl ?_
      refine LW.assign rfl rfl ?_
      refine LW.nil ?_
      refine NW.then_ ?_
      refine CW.seq ?_
      refine CW.region ?_
      refine LW.move rfl rfl ?_
      refine LW.call (dev_Crash W B p bn bw bl 64 s hs.ok [] none 0 [] Src.nil) Tryd.func21 rfl FactsLawFuse.fname21 ⟨rfl, rfl, trivial⟩ (Take.both (Take.none _) (by repeat (first | exact Take.head _ _ | apply Take.tail))) rfl ?_
      rintro _ _ ⟨cp, cn, cw, cl, rfl, rfl⟩; refine LW.split2 (LW.split2p ?_)
      refine LW.assign rfl rfl ?_
      refine LW.nil ?_
      refine NW.then_ ?_
      refine CW.seq ?_
      refine CW.region ?_
      refine LW.move rfl rfl ?_
      refine LW.call (dev_Down W B p bn bw bl 64 s) Tryd.func23 rfl FactsLawFuse.fname23 ⟨rfl, trivial⟩ ((by repeat (first | exact Take.head _ _ | apply Take.tail))) rfl ?_
      rintro _ _ ⟨rfl, rfl⟩; rw [hdn]
      refine LW.move rfl rfl ?_
      refine LW.on 64 rfl rfl ?_
      refine LW.move rfl rfl ?_
      refine LW.on 64 rfl rfl ?_
      refine LW.call (law_Bytes W B 1) Tryd.func18 rfl FactsLawFuse.fname18 ⟨rfl, trivial⟩ (Take.none _) rfl ?_
      rintro _ _ ⟨b3, rfl, rfl⟩
      refine LW.on 64 rfl rfl ?_
      refine LW.call (dev_Write_no W B p bn bw bl 64 s 1 (some ⟨b3, 0, none⟩) 64 64 (by rw [he1]; decide)) Tryd.func19 rfl FactsLawFuse.fname19 ⟨rfl, rfl, rfl, trivial⟩ (by repeat (first | exact Take.head _ _ | apply Take.tail)) rfl ?_
      rintro _ _ ⟨rfl, rfl⟩; rw [he1]
      refine LW.on 64 rfl rfl ?_
      refine LW.eql true rfl rfl (rfl) rfl ?_
      refine LW.pickT rfl rfl rfl ?_
      refine LW.move rfl rfl ?_
      refine LW.on 70 rfl rfl ?_
      refine LW.move rfl rfl ?_
      refine LW.on 70 rfl rfl ?_
      refine LW.call (dev_Flush W B p bn bw bl 64 s hs.ok) Tryd.func36 rfl FactsLawFuse.fname36 ⟨rfl, trivial⟩ (by repeat (first | exact Take.head _ _ | apply Take.tail)) rfl ?_
      rintro _ _ ⟨rfl, rfl⟩; rw [hfe]
      refine LW.on 70 rfl rfl ?_
      refine LW.eql true rfl rfl (rfl) rfl ?_
      refine LW.pickT rfl rfl rfl ?_
      refine LW.move rfl rfl ?_
      refine LW.on 75 rfl rfl ?_
      refine LW.move rfl rfl ?_
      refine LW.on 75 rfl rfl ?_
      refine LW.eql true rfl rfl (rfl) rfl ?_
      refine LW.pickT rfl rfl rfl ?_
      refine LW.move rfl rfl ?_
      refine LW.on 79 rfl rfl ?_
      refine LW.move rfl rfl ?_
      refine LW.on 79 rfl rfl ?_
      refine LW.lenSlice rfl Tryd.underlying26 rfl ?_
      refine LW.on 79 rfl rfl ?_
      refine LW.eql true rfl rfl (rfl) rfl ?_
      refine LW.pickT rfl rfl rfl ?_
      refine LW.move rfl rfl ?_
      refine LW.on 84 rfl rfl ?_
      refine LW.move rfl rfl ?_
      refine LW.on 84 rfl rfl ?_
      refine LW.ptrNotNil _ rfl Tryd.underlying24 rfl rfl ?_
      refine LW.pickT rfl rfl rfl ?_
      refine LW.move rfl rfl ?_
      refine LW.on 88 rfl rfl ?_
      refine LW.move rfl rfl ?_
      refine LW.on 88 rfl rfl ?_
      refine LW.call (dev_Down W B cp cn cw cl 64 (s.crash 64 [])) Tryd.func23 rfl FactsLawFuse.fname23 ⟨rfl, trivial⟩ (by repeat (first | exact Take.head _ _ | apply Take.tail)) rfl ?_
      rintro _ _ ⟨rfl, rfl⟩
      refine LW.on 88 rfl rfl ?_
      refine LW.not (true) rfl (rfl) rfl ?_
      refine LW.pickT rfl rfl rfl ?_
      refine LW.move rfl rfl ?_
      refine LW.on 93 rfl rfl ?_
      refine LW.move rfl rfl ?_
      refine LW.on 93 rfl rfl ?_
      refine LW.call (law_Bytes W B 9) Tryd.func18 rfl FactsLawFuse.fname18 ⟨rfl, trivial⟩ (Take.none _) rfl ?_
      rintro _ _ ⟨b4, rfl, rfl⟩
      refine LW.on 93 rfl rfl ?_
      refine LW.call (dev_Write_ok W B cp cn cw cl 64 (s.crash 64 []) (hs.ok.crash []) 1 (by decide) rfl [cr b4 5 ((bytes 9).map u8v)] (some ⟨b4, 0, none⟩) 64 (bytes 9) (bytes_len _) (Src.row (fun j v hj => by rw [Nat.zero_add]; exact hj))) Tryd.func19 rfl FactsLawFuse.fname19 ⟨rfl, rfl, rfl, trivial⟩ (Take.both (by repeat (first | exact Take.head _ _ | apply Take.tail)) (by repeat (first | exact Take.head _ _ | apply Take.tail))) rfl ?_
      rintro _ _ ⟨rfl, rfl⟩
      refine LW.on 93 rfl rfl ?_
      refine LW.eql true rfl rfl (rfl) rfl ?_
      refine LW.pickT rfl rfl rfl ?_
      refine LW.assign rfl rfl ?_
      refine LW.nil ?_
      refine NW.then_ ?_
      refine CW.ret ?_
      refine NW.ret1 rfl rfl ⟨_, ⟨rfl, rfl⟩, ?_⟩
      exact Sub.nil _
end
end Go.Proofs.YtmgpldgldgdenaaDoor
