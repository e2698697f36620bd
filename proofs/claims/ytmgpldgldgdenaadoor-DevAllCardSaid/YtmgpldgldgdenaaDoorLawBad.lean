/-
  DevBad, walked.
-/
import Derived.Test.YtmgpldgldgdenaaDoorLawFuse
namespace Go.Proofs.YtmgpldgldgdenaaDoor
open Go.RowKit
namespace FactsLawBad
theorem fname16 : (Tryd.f16.name == "runtime.NumGoroutine") = false := by kernel_rfl
theorem fname17 : (Tryd.f17.name == "runtime.NumGoroutine") = false := by kernel_rfl
theorem fname19 : (Tryd.f19.name == "runtime.NumGoroutine") = false := by kernel_rfl
theorem fname22 : (Tryd.f22.name == "runtime.NumGoroutine") = false := by kernel_rfl
theorem fname23 : (Tryd.f23.name == "runtime.NumGoroutine") = false := by kernel_rfl
theorem fname36 : (Tryd.f36.name == "runtime.NumGoroutine") = false := by kernel_rfl
theorem fname40 : (Tryd.f40.name == "runtime.NumGoroutine") = false := by kernel_rfl
theorem info5 : (Tryd.prog.info? 5).map (fun i => (i.zero, i.size, i.bytes)) = some (some (.int .u8 0), 1, 1) := by kernel_rfl
end FactsLawBad
def errW (i : Int) (n : Nat) : Int := if isB 64 i then (if n = 64 then 0 else 1) else 2
theorem errW_of {s : DevS} (i : Int) (n : Nat) (h : s.down = false) : s.err 64 i n = errW i n := by simp [DevS.err, errW, h]
theorem flush_loose {s : DevS} (h : s.down = false) : (s.flush 64).loose = List.replicate 64 false := by
  rw [DevS.flush, if_neg (by simp [h]), DevS.burn]
  split <;> rfl
theorem zeros_row (n : Nat) : (madeCells (Value.int .u8 0).cells (n * 1)).toList = (List.replicate n (0 : UInt8)).map u8v := by
  rw [List.map_replicate, Nat.mul_one]
  exact madeCells_rep _ _ _ (by intro x hx; simp [Value.cells] at hx; exact hx) (by simp [Value.cells])
section
variable (W : World) (B : Nat)
theorem law_DevBad (h0 : 0 < B) (hg : W.cell? ⟨0, 0, none⟩ = some (rty 80)) (i n0 f0 : Int) :
    Spec Tryd.prog W B 14 [.int .i64 i, .int .i64 n0, .int .i64 f0] [] (fun v post => v = .bool true ∧ post = []) := by
  obtain ⟨f, hf, hf5, hf1, hf2⟩ := mod_pos f0 5 (by decide) (by decide)
  obtain ⟨n, hn, hn200, hn1, hn2⟩ := mod_pos n0 200 (by decide) (by decide)
  have hk0 : (DevS.zero 64).Ok 64 := DevS.Ok.zero (by decide) (by decide)
  have hs0 : Burning (f + 1) 0 ((DevS.zero 64).blow ((f + 1 : Nat) : Int)) := Burning.start (f + 1) (by omega)
  have hd0 := hs0.alive (by omega)
  have hl0 : ((DevS.zero 64).blow ((f + 1 : Nat) : Int)).loose = List.replicate 64 false := rfl
  generalize hs : (DevS.zero 64).blow ((f + 1 : Nat) : Int) = s0 at *
  refine Spec.enter ([]) Tryd.func14 rfl Tryd.ntmps14 rfl (by first | rfl | simp) (fun w0 => ?_)
  refine CW.seq ?_
  refine CW.region ?_
  refine LW.assign rfl rfl ?_
  refine LW.nil ?_
  refine NW.then_ ?_
  refine CW.seq ?_
  refine CW.region ?_
  refine LW.call (law_begun W B h0 hg) Tryd.func16 rfl FactsLawBad.fname16 trivial (Take.none _) rfl ?_
  rintro _ _ ⟨rfl, rfl⟩
  refine LW.assign rfl rfl ?_
  refine LW.nil ?_
  refine NW.then_ ?_
  refine CW.seq ?_
  refine CW.seq ?_
  refine CW.region ?_
  refine LW.move rfl rfl ?_
  refine LW.not (false) rfl (rfl) rfl ?_
  refine LW.nil ?_
  refine NW.then_ ?_
  refine CW.cond_false rfl ?_
  refine CW.skip ?_
  refine NW.then_ ?_
  refine CW.seq ?_
  refine CW.region ?_
  refine LW.call (dev_New W B 64 (by decide) (by decide)) Tryd.func17 rfl FactsLawBad.fname17 ⟨rfl, trivial⟩ (Take.none _) rfl ?_
  rintro _ _ ⟨p, bn, bw, bl, rfl, rfl⟩
  refine LW.assign rfl rfl ?_
  refine LW.nil ?_
  refine NW.then_ ?_
  refine CW.seq ?_
  refine CW.region ?_
  refine LW.move rfl rfl ?_
  refine LW.rem (f0.tmod 5) rfl rfl (by decide) (rfl) rfl ?_
  refine LW.add (f0.tmod 5 + 5) rfl rfl (by first | rfl | exact wr64 (by omega) (by omega) (by omega)) rfl ?_
  refine LW.rem ((f : Int)) rfl rfl (by decide) (hf) rfl ?_
  refine LW.add (((f + 1 : Nat) : Int)) rfl rfl (by first | rfl | exact wr64 (by omega) (by omega) (by omega)) rfl ?_
  refine LW.assign rfl rfl ?_
  refine LW.nil ?_
  refine NW.then_ ?_
  refine CW.seq ?_
  refine CW.region ?_
  refine LW.move rfl rfl ?_
  refine LW.move rfl rfl ?_
  refine LW.call (dev_Fuse W B p bn bw bl 64 (DevS.zero 64) ((f + 1 : Nat) : Int)) Tryd.func40 rfl FactsLawBad.fname40 ⟨rfl, rfl, trivial⟩ (by repeat (first | exact Take.head _ _ | apply Take.tail)) rfl ?_
  rintro _ _ ⟨rfl, rfl⟩; rw [hs]
  refine LW.nil ?_
  refine NW.then_ ?_
  refine CW.seq ?_
  refine CW.region ?_
  refine LW.move rfl rfl ?_
  refine LW.rem (n0.tmod 200) rfl rfl (by decide) (rfl) rfl ?_
  refine LW.add (n0.tmod 200 + 200) rfl rfl (by first | rfl | exact wr64 (by omega) (by omega) (by omega)) rfl ?_
  refine LW.rem ((n : Int)) rfl rfl (by decide) (hn) rfl ?_
  refine LW.assign rfl rfl ?_
  refine LW.nil ?_
  refine NW.then_ ?_
  refine CW.cut (fun _ : Unit => [(9, .bool (!isB 64 i)), (8, .pointer (some ⟨p, 0, none⟩)), (2, .int .i64 ((f + 1 : Nat) : Int)), (1, .int .i64 (n : Int)), (0, .int .i64 i)]) (fun _ => [devC p bn bw bl 64 s0]) (fun _ => True) ?cut9_1 ?cut9_2
  case cut9_1 =>
    refine CW.region ?_
    refine LW.move rfl rfl ?_
    by_cases hi0 : i < 0
    · refine LW.lss true rfl rfl (decide_eq_true (by omega)) rfl ?_
      refine LW.move rfl rfl ?_
      refine LW.off 31 rfl rfl rfl rfl ?_
      refine LW.off 31 rfl rfl rfl rfl ?_
      refine LW.pickT rfl rfl rfl ?_
      refine LW.assign rfl rfl ?_
      refine LW.nil ?_
      refine NW.meet (()) ?j1 ?e1 ?h1
      case j1 => exact trivial
      case e1 => rw [show isB 64 i = false from by simp [isB]; omega]; repeat (first | exact Env.Le.nil _ | refine Env.Le.cons rfl ?_)
      case h1 => repeat (first | exact Sub.heap_nil _ | exact Sub.refl _ | refine Sub.heap_cons (by repeat (first | exact Take.head _ _ | apply Take.tail)) ?_)
    · refine LW.lss false rfl rfl (decide_eq_false (by omega)) rfl ?_
      refine LW.move rfl rfl ?_
      refine LW.on 31 rfl rfl ?_
      refine LW.move rfl rfl ?_
      by_cases hi64 : 64 ≤ i
      · refine LW.on 31 rfl rfl ?_
        refine LW.geq true rfl rfl (decide_eq_true (by omega)) rfl ?_
        refine LW.pickF rfl rfl rfl ?_
        refine LW.assign rfl rfl ?_
        refine LW.nil ?_
        refine NW.meet (()) ?j2 ?e2 ?h2
        case j2 => exact trivial
        case e2 => rw [show isB 64 i = false from by simp [isB]; omega]; repeat (first | exact Env.Le.nil _ | refine Env.Le.cons rfl ?_)
        case h2 => repeat (first | exact Sub.heap_nil _ | exact Sub.refl _ | refine Sub.heap_cons (by repeat (first | exact Take.head _ _ | apply Take.tail)) ?_)
      · refine LW.on 31 rfl rfl ?_
        refine LW.geq false rfl rfl (decide_eq_false (by omega)) rfl ?_
        refine LW.pickF rfl rfl rfl ?_
        refine LW.assign rfl rfl ?_
        refine LW.nil ?_
        refine NW.meet (()) ?j3 ?e3 ?h3
        case j3 => exact trivial
        case e3 => rw [show isB 64 i = true from by simp [isB]; omega]; repeat (first | exact Env.Le.nil _ | refine Env.Le.cons rfl ?_)
        case h3 => repeat (first | exact Sub.heap_nil _ | exact Sub.refl _ | refine Sub.heap_cons (by repeat (first | exact Take.head _ _ | apply Take.tail)) ?_)
  case cut9_2 =>
    rintro ⟨⟩ _
    refine CW.seq ?_
    refine CW.region ?_
    refine LW.assign rfl rfl ?_
    refine LW.nil ?_
    refine NW.then_ ?_
    refine CW.cut (fun _ : Unit => [(10, .int .i64 (errW i n)), (8, .pointer (some ⟨p, 0, none⟩)), (2, .int .i64 ((f + 1 : Nat) : Int)), (1, .int .i64 (n : Int)), (0, .int .i64 i)]) (fun _ => [devC p bn bw bl 64 s0]) (fun _ => True) ?cut14_1 ?cut14_2
    case cut14_1 =>
      refine CW.seq ?_
      refine CW.region ?_
      refine LW.move rfl rfl ?_
      refine LW.nil ?_
      refine NW.then_ ?_
      refine CW.cond rfl (fun hc35 => ?_) (fun hc35 => ?_)
      · have hib : isB 64 i = false := by simpa using hc35
        refine CW.region ?_
        refine LW.assign rfl rfl ?_
        refine LW.nil ?_
        refine NW.meet (()) ?j4 ?e4 ?h4
        case j4 => exact trivial
        case e4 => rw [show errW i n = 2 from by simp [errW, hib]]; repeat (first | exact Env.Le.nil _ | refine Env.Le.cons rfl ?_)
        case h4 => repeat (first | exact Sub.heap_nil _ | exact Sub.refl _ | refine Sub.heap_cons (by repeat (first | exact Take.head _ _ | apply Take.tail)) ?_)
      · have hib : isB 64 i = true := by simpa using hc35
        refine CW.seq ?_
        refine CW.region ?_
        refine LW.move rfl rfl ?_
        by_cases hn64 : n = 64
        · refine LW.neq false rfl rfl (bne_eq_false_iff_eq.2 (by omega)) rfl ?_
          refine LW.nil ?_
          refine NW.then_ ?_
          refine CW.cond_false rfl ?_
          refine CW.skip ?_
          refine NW.meet (()) ?j5 ?e5 ?h5
          case j5 => exact trivial
          case e5 => rw [show errW i n = 0 from by simp [errW, hib, hn64]]; repeat (first | exact Env.Le.nil _ | refine Env.Le.cons rfl ?_)
          case h5 => repeat (first | exact Sub.heap_nil _ | exact Sub.refl _ | refine Sub.heap_cons (by repeat (first | exact Take.head _ _ | apply Take.tail)) ?_)
        · refine LW.neq true rfl rfl (bne_iff_ne.2 (by omega)) rfl ?_
          refine LW.nil ?_
          refine NW.then_ ?_
          refine CW.cond_true rfl ?_
          refine CW.region ?_
          refine LW.assign rfl rfl ?_
          refine LW.nil ?_
          refine NW.meet (()) ?j6 ?e6 ?h6
          case j6 => exact trivial
          case e6 => rw [show errW i n = 1 from by simp [errW, hib, hn64]]; repeat (first | exact Env.Le.nil _ | refine Env.Le.cons rfl ?_)
          case h6 => repeat (first | exact Sub.heap_nil _ | exact Sub.refl _ | refine Sub.heap_cons (by repeat (first | exact Take.head _ _ | apply Take.tail)) ?_)
    case cut14_2 =>
      rintro ⟨⟩ _
      refine CW.seq ?_
      refine CW.seq ?_
      refine CW.region ?_
      refine LW.move rfl rfl ?_
      by_cases hw0 : errW i n = 0
      · refine LW.eql true rfl rfl (beq_iff_eq.2 (by omega)) rfl ?_
        refine LW.nil ?_
        refine NW.then_ ?_
        refine CW.cond_true rfl ?_
        refine CW.seq ?_
        obtain ⟨hib, rfl⟩ : isB 64 i = true ∧ n = 64 := by
          unfold errW at hw0
          cases hib : isB 64 i
          · simp [hib] at hw0
          · by_cases hn64 : n = 64
            · exact ⟨rfl, hn64⟩
            · simp [hib, hn64] at hw0
        obtain ⟨k, rfl⟩ : ∃ k : Nat, i = (k : Int) := ⟨i.toNat, by simp [isB] at hib; omega⟩
        have hk64 : k < 64 := by simp [isB] at hib; omega
        refine CW.region ?_
        refine LW.move rfl rfl ?_
        refine LW.move rfl rfl ?_
        refine LW.move rfl rfl ?_
        refine LW.make (64) (64) ((List.replicate 64 (0 : UInt8)).map u8v) rfl rfl (by first | rfl | omega) (by first | rfl | omega) Tryd.underlying26 FactsLawBad.info5 (by omega) (by omega) (by omega) (zeros_row 64) rfl ?_
        intro bm43
        refine LW.call (dev_Write_ok W B p bn bw bl 64 s0 hs0.ok k hk64 hd0 [cr bm43 5 ((List.replicate 64 (0 : UInt8)).map u8v)] (some ⟨bm43, 0, none⟩) 64 (List.replicate 64 (0 : UInt8)) (by simp) (Src.row (fun j v hj => by rw [Nat.zero_add]; exact hj))) Tryd.func19 rfl FactsLawBad.fname19 ⟨rfl, rfl, rfl, trivial⟩ (Take.both (by repeat (first | exact Take.head _ _ | apply Take.tail)) (by repeat (first | exact Take.head _ _ | apply Take.tail))) rfl ?_
        rintro _ _ ⟨rfl, rfl⟩; refine LW.split2 ?_
        refine LW.eql true rfl rfl (rfl) rfl ?_
        refine LW.move rfl rfl ?_
        refine LW.on 46 rfl rfl ?_
        refine LW.move rfl rfl ?_
        refine LW.on 46 rfl rfl ?_
        refine LW.call (dev_Down W B p bn bw bl 64 (s0.put k (List.replicate 64 (0 : UInt8))).burn) Tryd.func23 rfl FactsLawBad.fname23 ⟨rfl, trivial⟩ (by repeat (first | exact Take.head _ _ | apply Take.tail)) rfl ?_
        rintro _ _ ⟨rfl, rfl⟩
        refine LW.on 46 rfl rfl ?_
        refine LW.move rfl rfl ?_
        refine LW.on 46 rfl rfl ?_
        refine LW.eql (((f + 1 : Nat) : Int) == 1) rfl rfl (rfl) rfl ?_
        refine LW.on 46 rfl rfl ?_
        refine LW.boolEql (true) rfl rfl Tryd.underlying4 ((by rw [(hs0.put (Nat.succ_pos f) (i := k) (b := List.replicate 64 (0 : UInt8)) (by simp)).down]; by_cases hh : f = 0 <;> simp [hh] <;> omega)) rfl ?_
        refine LW.pickT rfl rfl rfl ?_
        refine LW.assign rfl rfl ?_
        refine LW.nil ?_
        refine NW.then_ ?_
        refine CW.ret ?_
        refine NW.then_ret ?_
        refine NW.ret1 rfl rfl ⟨_, ⟨rfl, rfl⟩, ?_⟩
        exact Sub.nil _
      · refine LW.eql false rfl rfl (beq_eq_false_iff_ne.2 (by omega)) rfl ?_
        refine LW.nil ?_
        refine NW.then_ ?_
        refine CW.cond_false rfl ?_
        refine CW.skip ?_
        refine NW.then_ ?_
        refine CW.seq ?_
        refine CW.seq ?_
        refine CW.region ?_
        refine LW.assign rfl rfl ?_
        refine LW.nil ?_
        refine NW.then_ ?_
        refine CW.block ?_
        refine CW.loop (fun k : Nat => [(11, .int .i64 (k : Int)), (10, .int .i64 (errW i n)), (8, .pointer (some ⟨p, 0, none⟩)), (2, .int .i64 ((f + 1 : Nat) : Int)), (1, .int .i64 (n : Int)), (0, .int .i64 i)]) (fun _ => [devC p bn bw bl 64 s0]) (fun k => k ≤ 10) (fun k => 10 - k) 0 ?st17_j ?st17_e ?st17_h ?st17_r
        case st17_j => exact Nat.zero_le _
        case st17_e => repeat (first | exact Env.Le.nil _ | refine Env.Le.cons rfl ?_)
        case st17_h => repeat (first | exact Sub.heap_nil _ | exact Sub.refl _ | refine Sub.heap_cons (by repeat (first | exact Take.head _ _ | apply Take.tail)) ?_)
        case st17_r =>
          intro k hk
          refine CW.seq ?_
          refine CW.seq ?_
          refine CW.region ?_
          refine LW.move rfl rfl ?_
          refine LW.lss (decide ((k : Int) < 10)) rfl rfl (rfl) rfl ?_
          refine LW.nil ?_
          refine NW.then_ ?_
          refine CW.cond rfl (fun hc54 => ?_) (fun hc54 => ?_)
          · have hk10 : k < 10 := by have := of_decide_eq_true hc54; omega
            refine CW.skip ?_
            refine NW.then_ ?_
            refine CW.seq ?_
            refine CW.block ?_
            refine CW.seq ?_
            refine CW.region ?_
            refine LW.move rfl rfl ?_
            refine LW.move rfl rfl ?_
            refine LW.move rfl rfl ?_
            refine LW.make (n) (n) ((List.replicate n (0 : UInt8)).map u8v) rfl rfl (by first | rfl | omega) (by first | rfl | omega) Tryd.underlying26 FactsLawBad.info5 (by omega) (by omega) (by omega) (zeros_row n) rfl ?_
            intro bm60
            refine LW.call (dev_Write_no W B p bn bw bl 64 s0 i (some ⟨bm60, 0, none⟩) n n (by rw [errW_of i n hd0]; exact hw0)) Tryd.func19 rfl FactsLawBad.fname19 ⟨rfl, rfl, rfl, trivial⟩ (by repeat (first | exact Take.head _ _ | apply Take.tail)) rfl ?_
            rintro _ _ ⟨rfl, rfl⟩; rw [errW_of i n hd0]
            refine LW.move rfl rfl ?_
            refine LW.neq false rfl rfl (by simp) rfl ?_
            refine LW.nil ?_
            refine NW.then_ ?_
            refine CW.cond_false rfl ?_
            refine CW.skip ?_
            refine NW.block ?_
            refine NW.then_ ?_
            refine CW.region ?_
            refine LW.move rfl rfl ?_
            refine LW.add ((k + 1 : Int)) rfl rfl (by first | rfl | exact wr64 (by omega) (by omega) (by omega)) rfl ?_
            refine LW.assign rfl rfl ?_
            refine LW.nil ?_
            refine NW.meet (k + 1) ?j7 ?e7 ?h7
            case j7 => exact ⟨hk10, by omega⟩
            case e7 => repeat (first | exact Env.Le.nil _ | refine Env.Le.cons rfl ?_)
            case h7 => repeat (first | exact Sub.heap_nil _ | exact Sub.refl _ | refine Sub.heap_cons (by repeat (first | exact Take.head _ _ | apply Take.tail)) ?_)
          · refine CW.exit ?_
            refine NW.then_exit ?_
            refine NW.then_exit ?_
            refine NW.block_exit ?_
            refine NW.then_ ?_
            refine CW.seq ?_
            refine CW.seq ?_
            refine CW.region ?_
            refine LW.assign rfl rfl ?_
            refine LW.nil ?_
            refine NW.then_ ?_
            refine CW.block ?_
            refine CW.loop (fun st : Nat × DevS => [(12, .int .i64 (st.1 : Int)), (8, .pointer (some ⟨p, 0, none⟩)), (2, .int .i64 ((f + 1 : Nat) : Int)), (1, .int .i64 (n : Int)), (0, .int .i64 i)]) (fun st => [devC p bn bw bl 64 st.2]) (fun st => st.1 ≤ f + 1 ∧ Burning (f + 1) st.1 st.2 ∧ st.2.loose = List.replicate 64 false) (fun st => f + 1 - st.1) (0, s0) ?st22_j ?st22_e ?st22_h ?st22_r
            case st22_j => exact ⟨Nat.zero_le _, hs0, hl0⟩
            case st22_e => repeat (first | exact Env.Le.nil _ | refine Env.Le.cons rfl ?_)
            case st22_h => repeat (first | exact Sub.heap_nil _ | exact Sub.refl _ | refine Sub.heap_cons (by repeat (first | exact Take.head _ _ | apply Take.tail)) ?_)
            case st22_r =>
              rintro ⟨j, s⟩ ⟨hj, hsj, hlj⟩; dsimp only at hj hsj hlj
              refine CW.seq ?_
              refine CW.seq ?_
              refine CW.region ?_
              refine LW.move rfl rfl ?_
              refine LW.move rfl rfl ?_
              refine LW.lss (decide ((j : Int) < ((f + 1 : Nat) : Int))) rfl rfl (rfl) rfl ?_
              refine LW.nil ?_
              refine NW.then_ ?_
              refine CW.cond rfl (fun hc66 => ?_) (fun hc66 => ?_)
              · have hjf : j < f + 1 := by have := of_decide_eq_true hc66; omega
                have hdj := hsj.alive hjf
                have hfj : s.flushE = 0 := by simp [DevS.flushE, hdj]
                refine CW.skip ?_
                refine NW.then_ ?_
                refine CW.seq ?_
                refine CW.block ?_
                refine CW.seq ?_
                refine CW.region ?_
                refine LW.move rfl rfl ?_
                refine LW.call (dev_Down W B p bn bw bl 64 s) Tryd.func23 rfl FactsLawBad.fname23 ⟨rfl, trivial⟩ ((by repeat (first | exact Take.head _ _ | apply Take.tail))) rfl ?_
                rintro _ _ ⟨rfl, rfl⟩; rw [hdj]
                refine LW.move rfl rfl ?_
                refine LW.on 71 rfl rfl ?_
                refine LW.move rfl rfl ?_
                refine LW.on 71 rfl rfl ?_
                refine LW.call (dev_Flush W B p bn bw bl 64 s hsj.ok) Tryd.func36 rfl FactsLawBad.fname36 ⟨rfl, trivial⟩ (by repeat (first | exact Take.head _ _ | apply Take.tail)) rfl ?_
                rintro _ _ ⟨rfl, rfl⟩; rw [hfj]
                refine LW.on 71 rfl rfl ?_
                refine LW.neq false rfl rfl (rfl) rfl ?_
                refine LW.pickF rfl rfl rfl ?_
                refine LW.nil ?_
                refine NW.then_ ?_
                refine CW.cond_false rfl ?_
                refine CW.skip ?_
                refine NW.block ?_
                refine NW.then_ ?_
                refine CW.region ?_
                refine LW.move rfl rfl ?_
                refine LW.add ((j + 1 : Int)) rfl rfl (by first | rfl | exact wr64 (by omega) (by omega) (by omega)) rfl ?_
                refine LW.assign rfl rfl ?_
                refine LW.nil ?_
                refine NW.meet ((j + 1, s.flush 64)) ?j8 ?e8 ?h8
                case j8 => exact ⟨⟨hjf, hsj.flush hjf, flush_loose hdj⟩, by dsimp only; omega⟩
                case e8 => repeat (first | exact Env.Le.nil _ | refine Env.Le.cons rfl ?_)
                case h8 => repeat (first | exact Sub.heap_nil _ | exact Sub.refl _ | refine Sub.heap_cons (by repeat (first | exact Take.head _ _ | apply Take.tail)) ?_)
              · have hjf : j = f + 1 := by have := of_decide_eq_false hc66; omega
                subst hjf
                have hdj : s.down = true := by rw [hsj.down]; simp
                have hej : s.err 64 i n = 9 := by simp [DevS.err, hdj]
                have hlo : looseTo s 64 = [] := by unfold looseTo; rw [hlj]; decide
                refine CW.exit ?_
                refine NW.then_exit ?_
                refine NW.then_exit ?_
                refine NW.block_exit ?_
                refine NW.then_ ?_
                refine CW.seq ?_
                refine CW.region ?_
                refine LW.move rfl rfl ?_
                refine LW.call (dev_Down W B p bn bw bl 64 s) Tryd.func23 rfl FactsLawBad.fname23 ⟨rfl, trivial⟩ ((by repeat (first | exact Take.head _ _ | apply Take.tail))) rfl ?_
                rintro _ _ ⟨rfl, rfl⟩; rw [hdj]
                refine LW.move rfl rfl ?_
                refine LW.on 78 rfl rfl ?_
                refine LW.move rfl rfl ?_
                refine LW.on 78 rfl rfl ?_
                refine LW.call (dev_Loose W B p bn bw bl 64 s hsj.ok) Tryd.func22 rfl FactsLawBad.fname22 ⟨rfl, trivial⟩ (by repeat (first | exact Take.head _ _ | apply Take.tail)) rfl ?_
                rw [hlo]; rintro v _ ⟨ch, ho, rfl⟩; obtain ⟨A2, cp2, rfl, hA2, hc2⟩ := ho.val; refine LW.split2 ?_
                refine LW.on 78 rfl rfl ?_
                refine LW.lenSlice rfl Tryd.underlying33 rfl ?_
                refine LW.on 78 rfl rfl ?_
                refine LW.eql true rfl rfl (rfl) rfl ?_
                refine LW.pickT rfl rfl rfl ?_
                refine LW.move rfl rfl ?_
                refine LW.on 84 rfl rfl ?_
                refine LW.move rfl rfl ?_
                refine LW.on 84 rfl rfl ?_
                refine LW.move rfl rfl ?_
                refine LW.on 84 rfl rfl ?_
                refine LW.move rfl rfl ?_
                refine LW.on 84 rfl rfl ?_
                refine LW.make (n) (n) ((List.replicate n (0 : UInt8)).map u8v) rfl rfl (by first | rfl | omega) (by first | rfl | omega) Tryd.underlying26 FactsLawBad.info5 (by omega) (by omega) (by omega) (zeros_row n) rfl ?_
                intro bm88
                refine LW.on 84 rfl rfl ?_
                refine LW.call (dev_Write_no W B p bn bw bl 64 s i (some ⟨bm88, 0, none⟩) n n (by rw [hej]; decide)) Tryd.func19 rfl FactsLawBad.fname19 ⟨rfl, rfl, rfl, trivial⟩ (by repeat (first | exact Take.head _ _ | apply Take.tail)) rfl ?_
                rintro _ _ ⟨rfl, rfl⟩; rw [hej]
                refine LW.on 84 rfl rfl ?_
                refine LW.eql true rfl rfl (rfl) rfl ?_
                refine LW.pickT rfl rfl rfl ?_
                refine LW.assign rfl rfl ?_
                refine LW.nil ?_
                refine NW.then_ ?_
                refine CW.ret ?_
                refine NW.ret1 rfl rfl ⟨_, ⟨rfl, rfl⟩, ?_⟩
                exact Sub.nil _
end
end Go.Proofs.YtmgpldgldgdenaaDoor
