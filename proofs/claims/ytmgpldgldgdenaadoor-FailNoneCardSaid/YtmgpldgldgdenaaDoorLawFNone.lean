/-
  FailNone, walked.
-/
import Derived.Test.YtmgpldgldgdenaaDoorJoin2
namespace Go.Proofs.YtmgpldgldgdenaaDoor
open Go.RowKit Go.Extern
namespace FactsLawFNone
theorem concrete28 : Tryd.prog.concrete 28 = true := by kernel_rfl
theorem fname16 : (Tryd.f16.name == "runtime.NumGoroutine") = false := by kernel_rfl
theorem fname46 : (Tryd.f46.name == "runtime.NumGoroutine") = false := by kernel_rfl
theorem fname47 : (Tryd.f47.name == "runtime.NumGoroutine") = false := by kernel_rfl
theorem fname48 : (Tryd.f48.name == "runtime.NumGoroutine") = false := by kernel_rfl
theorem fname49 : (Tryd.f49.name == "runtime.NumGoroutine") = false := by kernel_rfl
theorem fname50 : (Tryd.f50.name == "runtime.NumGoroutine") = false := by kernel_rfl
theorem info80 : (Tryd.prog.info? 80).map (fun i => (i.zero, i.size, i.bytes)) = some (some (.nilIface), 1, 16) := by kernel_rfl
end FactsLawFNone
section
variable (W : World) (B : Nat)
theorem law_FailNone (h0 : 0 < B) (hg : W.cell? ⟨0, 0, none⟩ = some (rty 80)) (s : List UInt8) (c0 d0 : Int) :
    Spec Tryd.prog W B 15 [strV s, .int .i64 c0, .int .i64 d0] [] (fun v post => v = .bool true ∧ post = []) := by
  obtain ⟨c, hc, hc12, hc1, hc2⟩ := mod_pos c0 12 (by decide) (by decide)
  obtain ⟨d, hd', hd12, hd1, hd2⟩ := mod_pos d0 12 (by decide) (by decide)
  have hcn : ((c + 1 : Nat) : Int) ≠ 0 := by omega
  have hdn : ((d + 1 : Nat) : Int) ≠ 0 := by omega
  refine Spec.enter ([]) Tryd.func15 rfl Tryd.ntmps15 rfl (by first | rfl | simp) (fun w0 => ?_)
  refine CW.seq ?_
  refine CW.region ?_
  refine LW.assign rfl rfl ?_
  refine LW.nil ?_
  refine NW.then_ ?_
  refine CW.seq ?_
  refine CW.region ?_
  refine LW.call (law_begun W B h0 hg) Tryd.func16 rfl FactsLawFNone.fname16 trivial (Take.none _) rfl ?_
  rintro _ _ ⟨rfl, rfl⟩
  refine LW.assign rfl rfl ?_
  refine LW.nil ?_
  refine NW.then_ ?_
  refine CW.seq ?_
  refine CW.seq ?_
  refine CW.region ?_
  refine LW.move rfl rfl ?_
  refine LW.not (false) rfl (rfl) rfl ?_
  refine LW.nil ?_
  refine NW.then_ ?_
  refine CW.cond_false rfl ?_
  refine CW.skip ?_
  refine NW.then_ ?_
  refine CW.seq ?_
  refine CW.region ?_
  refine LW.move rfl rfl ?_
  refine LW.rem (c0.tmod 12) rfl rfl (by decide) (rfl) rfl ?_
  refine LW.add (c0.tmod 12 + 12) rfl rfl (by first | rfl | exact wr64 (by omega) (by omega) (by omega)) rfl ?_
  refine LW.rem ((c : Int)) rfl rfl (by decide) (hc) rfl ?_
  refine LW.add (((c + 1 : Nat) : Int)) rfl rfl (by first | rfl | exact wr64 (by omega) (by omega) (by omega)) rfl ?_
  refine LW.move rfl rfl ?_
  refine LW.rem (d0.tmod 12) rfl rfl (by decide) (rfl) rfl ?_
  refine LW.add (d0.tmod 12 + 12) rfl rfl (by first | rfl | exact wr64 (by omega) (by omega) (by omega)) rfl ?_
  refine LW.rem ((d : Int)) rfl rfl (by decide) (hd') rfl ?_
  refine LW.add (((d + 1 : Nat) : Int)) rfl rfl (by first | rfl | exact wr64 (by omega) (by omega) (by omega)) rfl ?_
  refine LW.assign rfl rfl ?_
  refine LW.assign rfl rfl ?_
  refine LW.nil ?_
  refine NW.then_ ?_
  refine CW.seq ?_
  refine CW.region ?_
  refine LW.move rfl rfl ?_
  refine LW.mkIface rfl FactsLawFNone.concrete28 rfl ?_
  refine LW.move rfl rfl ?_
  refine LW.mkIface rfl FactsLawFNone.concrete28 rfl ?_
  refine LW.buildSlice (vs := [_, _]) ⟨rfl, rfl, trivial⟩ rfl (by intro v hv; simp at hv; rcases hv with rfl | rfl <;> rfl) Tryd.underlying103 FactsLawFNone.info80 rfl (by decide) (by decide) rfl ?_
  intro bs29
  refine LW.call (errors_Join W B ((c + 1 : Nat) : Int) ((d + 1 : Nat) : Int) bs29 2) Tryd.func49 rfl FactsLawFNone.fname49 ⟨rfl, trivial⟩ (by repeat (first | exact Take.head _ _ | apply Take.tail)) rfl ?_
  rintro _ _ ⟨q, sl, ch, rfl, ho, rfl⟩; refine LW.split2 ?_
  refine LW.assign rfl rfl ?_
  refine LW.nil ?_
  refine NW.then_ ?_
  refine CW.seq ?_
  refine CW.region ?_
  refine LW.move rfl rfl ?_
  refine LW.move rfl rfl ?_
  refine LW.call (failJ_At W B s q) Tryd.func46 rfl FactsLawFNone.fname46 ⟨rfl, rfl, trivial⟩ (Take.none _) rfl ?_
  rintro _ _ ⟨p, rfl, rfl⟩
  refine LW.assign rfl rfl ?_
  refine LW.nil ?_
  refine NW.then_ ?_
  refine CW.seq ?_
  refine CW.region ?_
  refine LW.move rfl rfl ?_
  refine LW.move rfl rfl ?_
  refine LW.call (failN_At W B s) Tryd.func46 rfl FactsLawFNone.fname46 ⟨rfl, rfl, trivial⟩ (Take.none _) rfl ?_
  rintro _ _ ⟨rfl, rfl⟩
  refine LW.call (failN_At W B s) Tryd.func46 rfl FactsLawFNone.fname46 ⟨rfl, rfl, trivial⟩ (Take.none _) rfl ?_
  rintro _ _ ⟨rfl, rfl⟩
  refine LW.ifaceNil _ rfl Tryd.underlying80 (.inl ⟨rfl, rfl⟩) rfl ?_
  refine LW.move rfl rfl ?_
  refine LW.on 39 rfl rfl ?_
  refine LW.move rfl rfl ?_
  refine LW.on 39 rfl rfl ?_
  refine LW.call (failJ_Code W B p s q sl ch ((c + 1 : Nat) : Int) ((d + 1 : Nat) : Int) ho h0 hg) Tryd.func47 rfl FactsLawFNone.fname47 ⟨rfl, trivial⟩ (Take.both (by repeat (first | exact Take.head _ _ | apply Take.tail)) (Take.both (by repeat (first | exact Take.head _ _ | apply Take.tail)) (by repeat (first | exact Take.head _ _ | apply Take.tail)))) rfl ?_
  rintro _ _ ⟨rfl, rfl⟩
  refine LW.on 39 rfl rfl ?_
  refine LW.move rfl rfl ?_
  refine LW.on 39 rfl rfl ?_
  refine LW.eql true rfl rfl (beq_iff_eq.2 rfl) rfl ?_
  refine LW.pickT rfl rfl rfl ?_
  refine LW.move rfl rfl ?_
  refine LW.on 45 rfl rfl ?_
  refine LW.move rfl rfl ?_
  refine LW.on 45 rfl rfl ?_
  refine LW.move rfl rfl ?_
  refine LW.on 45 rfl rfl ?_
  refine LW.call (failJ_Is W B p s q sl ch ((c + 1 : Nat) : Int) ((d + 1 : Nat) : Int) ((c + 1 : Nat) : Int) ho hcn) Tryd.func50 rfl FactsLawFNone.fname50 ⟨rfl, rfl, trivial⟩ ((by repeat (first | exact Take.head _ _ | apply Take.tail))) rfl ?_
  rintro _ _ ⟨rfl, rfl⟩; rw [show (((c + 1 : Nat) : Int) == ((c + 1 : Nat) : Int) || ((d + 1 : Nat) : Int) == ((c + 1 : Nat) : Int)) = true from by simp]
  refine LW.pickT rfl rfl rfl ?_
  refine LW.move rfl rfl ?_
  refine LW.on 50 rfl rfl ?_
  refine LW.move rfl rfl ?_
  refine LW.on 50 rfl rfl ?_
  refine LW.move rfl rfl ?_
  refine LW.on 50 rfl rfl ?_
  refine LW.call (failJ_Is W B p s q sl ch ((c + 1 : Nat) : Int) ((d + 1 : Nat) : Int) ((d + 1 : Nat) : Int) ho hdn) Tryd.func50 rfl FactsLawFNone.fname50 ⟨rfl, rfl, trivial⟩ ((by repeat (first | exact Take.head _ _ | apply Take.tail))) rfl ?_
  rintro _ _ ⟨rfl, rfl⟩; rw [show (((c + 1 : Nat) : Int) == ((d + 1 : Nat) : Int) || ((d + 1 : Nat) : Int) == ((d + 1 : Nat) : Int)) = true from by simp]; refine LW.split2 (a := [cr p 99 [strV s, joinV q]]) (b := [cr q 106 [sl]] ++ ch) ?_
  refine LW.pickT rfl rfl rfl ?_
  refine LW.move rfl rfl ?_
  refine LW.on 55 rfl rfl ?_
  refine LW.move rfl rfl ?_
  refine LW.on 55 rfl rfl ?_
  refine LW.call (failN_Is W B ((c + 1 : Nat) : Int) hcn) Tryd.func50 rfl FactsLawFNone.fname50 ⟨rfl, rfl, trivial⟩ (Take.none _) rfl ?_
  rintro _ _ ⟨rfl, rfl⟩
  refine LW.on 55 rfl rfl ?_
  refine LW.not (true) rfl (rfl) rfl ?_
  refine LW.pickT rfl rfl rfl ?_
  refine LW.move rfl rfl ?_
  refine LW.on 60 rfl rfl ?_
  refine LW.call (failN_Is0 W B) Tryd.func50 rfl FactsLawFNone.fname50 ⟨rfl, rfl, trivial⟩ (Take.none _) rfl ?_
  rintro _ _ ⟨rfl, rfl⟩
  refine LW.pickT rfl rfl rfl ?_
  refine LW.move rfl rfl ?_
  refine LW.on 63 rfl rfl ?_
  refine LW.move rfl rfl ?_
  refine LW.on 63 rfl rfl ?_
  refine LW.call (failJ_Where W B p s q) Tryd.func48 rfl FactsLawFNone.fname48 ⟨rfl, trivial⟩ (by repeat (first | exact Take.head _ _ | apply Take.tail)) rfl ?_
  rintro v4 _ ⟨ch4, ho4, rfl⟩; obtain ⟨A4, cp4, rfl, _, _⟩ := ho4.val; refine LW.split2 ?_
  refine LW.on 63 rfl rfl ?_
  refine LW.lenSlice rfl Tryd.underlying37 rfl ?_
  refine LW.on 63 rfl rfl ?_
  refine LW.eql true rfl rfl (rfl) rfl ?_
  refine LW.pickT rfl rfl rfl ?_
  refine LW.assign rfl rfl ?_
  refine LW.nil ?_
  refine NW.then_ ?_
  refine CW.ret ?_
  refine NW.ret1 rfl rfl ⟨_, ⟨rfl, rfl⟩, ?_⟩
  exact Sub.nil _
end
end Go.Proofs.YtmgpldgldgdenaaDoor
