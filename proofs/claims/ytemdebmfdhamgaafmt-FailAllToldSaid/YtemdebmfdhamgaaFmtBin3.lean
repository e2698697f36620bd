/-
  A READER's numbers and texts: their contracts.
-/
import Derived.Test.YtemdebmfdhamgaaFmtBin2
namespace Go.Proofs.YtemdebmfdhamgaaFmt
open Go.RowKit
namespace FactsBin3
theorem fa92_0 (b o : Nat) (w : World) : (Instr.fieldAt 92 (.pointer (some ⟨b, o, none⟩)) 0).run Tryf.prog w = .ok (.pointer (some ⟨b, o, none⟩)) w := by kernel_rfl
theorem fa92_1 (b o : Nat) (w : World) : (Instr.fieldAt 92 (.pointer (some ⟨b, o, none⟩)) 1).run Tryf.prog w = .ok (.pointer (some ⟨b, o + 1, none⟩)) w := by kernel_rfl
theorem fname37 : (Tryf.f37.name == "runtime.NumGoroutine") = false := by kernel_rfl
theorem fname38 : (Tryf.f38.name == "runtime.NumGoroutine") = false := by kernel_rfl
theorem ixs41 : (Tryf.prog.info? 5).map (·.size) = some 1 := by kernel_rfl
theorem mixed : Tryf.prog.follows .mixedOrders = true := by kernel_rfl
theorem one41 : oneB Tryf.prog 41 = true := by kernel_rfl
theorem one5 : oneB Tryf.prog 5 = true := by kernel_rfl
theorem sz4 : (Tryf.prog.info? 4).map (·.size) = some 1 := by kernel_rfl
theorem sz41 : (Tryf.prog.info? 41).map (·.size) = some 1 := by kernel_rfl
theorem szt5 : (Tryf.prog.info? 5).map (·.size) = some 1 := by kernel_rfl
end FactsBin3
section
variable (W : World) (B : Nat)

theorem bin_RInt_bad (p : Nat) (v : Value) (ch : List Row) : Spec Tryf.prog W B 23 [.pointer (some ⟨p, 0, none⟩)] ([cr p 92 [v, .bool true]] ++ ch)
    (fun r post => r = .int .i64 0 ∧ post = [cr p 92 [v, .bool true]] ++ ch) := by
  refine Spec.enter ([[cr p 92 [v, .bool true]], ch]) Tryf.func23 rfl Tryf.ntmps23 rfl (by first | rfl | simp) (fun w0 => ?_)
  refine CW.seq ?_
  refine CW.region ?_
  refine LW.assign rfl rfl ?_
  refine LW.nil ?_
  refine NW.then_ ?_
  refine CW.seq ?_
  refine CW.seq ?_
  refine CW.region ?_
  refine LW.move rfl rfl ?_
  refine LW.call (bin_Err W B p v true ch) Tryf.func38 rfl FactsBin3.fname38 ⟨rfl, trivial⟩ (Take.both (by repeat (first | exact Take.head _ _ | apply Take.tail)) (by repeat (first | exact Take.head _ _ | apply Take.tail))) rfl ?_
  rintro _ _ ⟨rfl, rfl⟩; refine LW.split2 ?_
  refine LW.neq true rfl rfl (rfl) rfl ?_
  refine LW.nil ?_
  refine NW.then_ ?_
  refine CW.cond_true rfl ?_
  refine CW.seq ?_
  refine CW.region ?_
  refine LW.assign rfl rfl ?_
  refine LW.nil ?_
  refine NW.then_ ?_
  refine CW.ret ?_
  refine NW.then_ret ?_
  refine NW.ret1 rfl rfl ⟨_, ⟨rfl, rfl⟩, ?_⟩
  exact Sub.take (p := [_]) (by repeat (first | exact Take.head _ _ | apply Take.tail)) (Sub.one (by repeat (first | exact Take.head _ _ | apply Take.tail)))

theorem bin_RInt (p : Nat) (v : Value) (bs : List UInt8) (ch : List Row) (hv : RdS W B v bs ch) (hlen : bs.length ≤ 1000000000) : Spec Tryf.prog W B 23 [.pointer (some ⟨p, 0, none⟩)] ([cr p 92 [v, .bool false]] ++ ch)
    (fun r post => (getZ bs = none ∧ r = .int .i64 0 ∧ post = [cr p 92 [v, .bool true]] ++ ch) ∨
      (∃ n m v', getZ bs = some (n, m) ∧ r = .int .i64 n ∧ RdS W B v' (bs.drop m) ch ∧ post = [cr p 92 [v', .bool false]] ++ ch)) := by
  obtain ⟨A, cp, rfl, hc, hs⟩ := hv
  have hget : ∀ i, i < bs.length → (bs.map u8v)[i]? = some (.int .u8 ((bs.getD i 0).toNat : Int)) := fun i hi => by simp [List.getD, List.getElem?_eq_getElem hi, u8v]
  refine Spec.enter ([[cr p 92 [.slice A bs.length cp, .bool false]], ch]) Tryf.func23 rfl Tryf.ntmps23 rfl (by first | rfl | simp) (fun w0 => ?_)
  refine CW.seq ?_
  refine CW.region ?_
  refine LW.assign rfl rfl ?_
  refine LW.nil ?_
  refine NW.then_ ?_
  refine CW.seq ?_
  refine CW.seq ?_
  refine CW.region ?_
  refine LW.move rfl rfl ?_
  refine LW.call (bin_Err W B p (.slice A bs.length cp) false ch) Tryf.func38 rfl FactsBin3.fname38 ⟨rfl, trivial⟩ (Take.both (by repeat (first | exact Take.head _ _ | apply Take.tail)) (by repeat (first | exact Take.head _ _ | apply Take.tail))) rfl ?_
  rintro _ _ ⟨rfl, rfl⟩; refine LW.split2 ?_
  refine LW.neq false rfl rfl (rfl) rfl ?_
  refine LW.nil ?_
  refine NW.then_ ?_
  refine CW.cond_false rfl ?_
  refine CW.skip ?_
  refine NW.then_ ?_
  refine CW.seq ?_
  refine CW.seq ?_
  refine CW.quiet FactsBin3.mixed (by kernel_rfl) ?_
  refine QW.step (Yl.move rfl) rfl ?_
  refine QW.step (Yl.nilPtr rfl) rfl ?_
  refine QW.step (Yl.fieldAddr _ rfl (fun _ => FactsBin3.fa92_0 _ _ _)) rfl ?_
  refine QW.step (Yl.loadSt rfl (by repeat (first | exact Take.head _ _ | apply Take.tail)) rfl FactsBin3.one41) rfl ?_
  refine QW.step (Yl.lenSlice rfl Tryf.underlying41) rfl ?_
  by_cases hb0 : bs.length = 0
  · refine QW.step (Yl.eql true rfl rfl (beq_iff_eq.2 (by omega))) rfl ?_
    refine QW.step (Yl.move rfl) rfl ?_
    refine QW.off 15 rfl rfl rfl rfl ?_
    refine QW.off 15 rfl rfl rfl rfl ?_
    refine QW.off 15 rfl rfl rfl rfl ?_
    refine QW.off 15 rfl rfl rfl rfl ?_
    refine QW.off 15 rfl rfl rfl rfl ?_
    refine QW.off 15 rfl rfl rfl rfl ?_
    refine QW.off 15 rfl rfl rfl rfl ?_
    refine QW.step (Yl.pickT rfl rfl) rfl ?_
    refine QW.step (Yl.move rfl) rfl ?_
    refine QW.off 24 rfl rfl rfl rfl ?_
    refine QW.off 24 rfl rfl rfl rfl ?_
    refine QW.off 24 rfl rfl rfl rfl ?_
    refine QW.off 24 rfl rfl rfl rfl ?_
    refine QW.off 24 rfl rfl rfl rfl ?_
    refine QW.off 24 rfl rfl rfl rfl ?_
    refine QW.off 24 rfl rfl rfl rfl ?_
    refine QW.off 24 rfl rfl rfl rfl ?_
    refine QW.off 24 rfl rfl rfl rfl ?_
    refine QW.off 24 rfl rfl rfl rfl ?_
    refine QW.off 24 rfl rfl rfl rfl ?_
    refine QW.off 24 rfl rfl rfl rfl ?_
    refine QW.off 24 rfl rfl rfl rfl ?_
    refine QW.step (Yl.pickT rfl rfl) rfl ?_
    refine QW.nil ?_
    refine NW.then_ ?_
    refine CW.cond_true rfl ?_
    refine CW.seq ?_
    have hgz : getZ bs = none := by rw [getZ, if_pos hb0]
    refine CW.region ?_
    refine LW.move rfl rfl ?_
    refine LW.nilPtr rfl rfl ?_
    refine LW.fieldAddr _ rfl (fun _ => FactsBin3.fa92_1 _ _ _) rfl ?_
    refine LW.store rfl rfl (by repeat (first | exact Take.head _ _ | apply Take.tail)) (by first | decide | exact Nat.lt_of_sub_pos (by rfl) | (simp; done) | simp [devHead]) FactsBin3.sz4 (rfl) ?_
    refine LW.nil ?_
    refine NW.then_ ?_
    refine CW.seq ?_
    refine CW.region ?_
    refine LW.assign rfl rfl ?_
    refine LW.nil ?_
    refine NW.then_ ?_
    refine CW.ret ?_
    refine NW.then_ret ?_
    refine NW.ret1 rfl rfl ⟨_, .inl ⟨hgz, rfl, rfl⟩, ?_⟩
    exact Sub.take (p := [_]) (by repeat (first | exact Take.head _ _ | apply Take.tail)) (Sub.one (by repeat (first | exact Take.head _ _ | apply Take.tail)))
  · refine QW.step (Yl.eql false rfl rfl (beq_eq_false_iff_ne.2 (by omega))) rfl ?_
    refine QW.step (Yl.move rfl) rfl ?_
    refine QW.on 15 rfl rfl ?_
    refine QW.step (Yl.move rfl) rfl ?_
    refine QW.on 15 rfl rfl ?_
    refine QW.step (Yl.nilPtr rfl) rfl ?_
    refine QW.on 15 rfl rfl ?_
    refine QW.step (Yl.fieldAddr _ rfl (fun _ => FactsBin3.fa92_0 _ _ _)) rfl ?_
    refine QW.on 15 rfl rfl ?_
    refine QW.step (Yl.loadSt rfl (by repeat (first | exact Take.head _ _ | apply Take.tail)) rfl FactsBin3.one41) rfl ?_
    refine QW.on 15 rfl rfl ?_
    obtain ⟨a, rfl⟩ : ∃ a, A = some a := hs.some (by rw [List.length_map]; omega)
    refine QW.step (Yl.indexAt rfl rfl Tryf.underlying41 FactsBin3.ixs41 (by omega) (by omega)) rfl ?_
    refine QW.on 15 rfl rfl ?_
    refine QW.step (Yl.loadRd (v := .int .u8 ((bs.getD 0 0).toNat : Int)) rfl (hs.rd (by repeat (first | exact Take.head _ _ | apply Take.tail))) (hget 0 (by omega)) FactsBin3.one5) rfl ?_
    by_cases hb8 : 8 < (bs.getD 0 0).toNat
    · refine QW.on 15 rfl rfl ?_
      refine QW.step (Yl.gtr true rfl rfl (decide_eq_true (by omega))) rfl ?_
      refine QW.step (Yl.pickF rfl rfl) rfl ?_
      refine QW.step (Yl.move rfl) rfl ?_
      refine QW.off 24 rfl rfl rfl rfl ?_
      refine QW.off 24 rfl rfl rfl rfl ?_
      refine QW.off 24 rfl rfl rfl rfl ?_
      refine QW.off 24 rfl rfl rfl rfl ?_
      refine QW.off 24 rfl rfl rfl rfl ?_
      refine QW.off 24 rfl rfl rfl rfl ?_
      refine QW.off 24 rfl rfl rfl rfl ?_
      refine QW.off 24 rfl rfl rfl rfl ?_
      refine QW.off 24 rfl rfl rfl rfl ?_
      refine QW.off 24 rfl rfl rfl rfl ?_
      refine QW.off 24 rfl rfl rfl rfl ?_
      refine QW.off 24 rfl rfl rfl rfl ?_
      refine QW.off 24 rfl rfl rfl rfl ?_
      refine QW.step (Yl.pickT rfl rfl) rfl ?_
      refine QW.nil ?_
      refine NW.then_ ?_
      refine CW.cond_true rfl ?_
      refine CW.seq ?_
      have hgz : getZ bs = none := by rw [getZ, if_neg hb0, if_pos hb8]
      refine CW.region ?_
      refine LW.move rfl rfl ?_
      refine LW.nilPtr rfl rfl ?_
      refine LW.fieldAddr _ rfl (fun _ => FactsBin3.fa92_1 _ _ _) rfl ?_
      refine LW.store rfl rfl (by repeat (first | exact Take.head _ _ | apply Take.tail)) (by first | decide | exact Nat.lt_of_sub_pos (by rfl) | (simp; done) | simp [devHead]) FactsBin3.sz4 (rfl) ?_
      refine LW.nil ?_
      refine NW.then_ ?_
      refine CW.seq ?_
      refine CW.region ?_
      refine LW.assign rfl rfl ?_
      refine LW.nil ?_
      refine NW.then_ ?_
      refine CW.ret ?_
      refine NW.then_ret ?_
      refine NW.ret1 rfl rfl ⟨_, .inl ⟨hgz, rfl, rfl⟩, ?_⟩
      exact Sub.take (p := [_]) (by repeat (first | exact Take.head _ _ | apply Take.tail)) (Sub.one (by repeat (first | exact Take.head _ _ | apply Take.tail)))
    · refine QW.on 15 rfl rfl ?_
      refine QW.step (Yl.gtr false rfl rfl (decide_eq_false (by omega))) rfl ?_
      refine QW.step (Yl.pickF rfl rfl) rfl ?_
      refine QW.step (Yl.move rfl) rfl ?_
      refine QW.on 24 rfl rfl ?_
      refine QW.step (Yl.move rfl) rfl ?_
      refine QW.on 24 rfl rfl ?_
      refine QW.step (Yl.nilPtr rfl) rfl ?_
      refine QW.on 24 rfl rfl ?_
      refine QW.step (Yl.fieldAddr _ rfl (fun _ => FactsBin3.fa92_0 _ _ _)) rfl ?_
      refine QW.on 24 rfl rfl ?_
      refine QW.step (Yl.loadSt rfl (by repeat (first | exact Take.head _ _ | apply Take.tail)) rfl FactsBin3.one41) rfl ?_
      refine QW.on 24 rfl rfl ?_
      refine QW.step (Yl.lenSlice rfl Tryf.underlying41) rfl ?_
      refine QW.on 24 rfl rfl ?_
      refine QW.step (Yl.move rfl) rfl ?_
      refine QW.on 24 rfl rfl ?_
      refine QW.step (Yl.nilPtr rfl) rfl ?_
      refine QW.on 24 rfl rfl ?_
      refine QW.step (Yl.fieldAddr _ rfl (fun _ => FactsBin3.fa92_0 _ _ _)) rfl ?_
      refine QW.on 24 rfl rfl ?_
      refine QW.step (Yl.loadSt rfl (by repeat (first | exact Take.head _ _ | apply Take.tail)) rfl FactsBin3.one41) rfl ?_
      refine QW.on 24 rfl rfl ?_
      refine QW.step (Yl.indexAt rfl rfl Tryf.underlying41 FactsBin3.ixs41 (by omega) (by omega)) rfl ?_
      refine QW.on 24 rfl rfl ?_
      refine QW.step (Yl.loadRd (v := .int .u8 ((bs.getD 0 0).toNat : Int)) rfl (hs.rd (by repeat (first | exact Take.head _ _ | apply Take.tail))) (hget 0 (by omega)) FactsBin3.one5) rfl ?_
      refine QW.on 24 rfl rfl ?_
      refine QW.step (Yl.convInt (((bs.getD 0 0).toNat : Int)) rfl Tryf.underlying5 Tryf.underlying3 (by first | rfl | exact wr64 (by omega) (by omega) (by omega))) rfl ?_
      by_cases hlk : bs.length ≤ (bs.getD 0 0).toNat
      · refine QW.on 24 rfl rfl ?_
        refine QW.step (Yl.leq true rfl rfl (decide_eq_true (by omega))) rfl ?_
        refine QW.step (Yl.pickF rfl rfl) rfl ?_
        refine QW.nil ?_
        refine NW.then_ ?_
        refine CW.cond_true rfl ?_
        refine CW.seq ?_
        have hgz : getZ bs = none := by rw [getZ, if_neg hb0, if_neg hb8, if_pos hlk]
        refine CW.region ?_
        refine LW.move rfl rfl ?_
        refine LW.nilPtr rfl rfl ?_
        refine LW.fieldAddr _ rfl (fun _ => FactsBin3.fa92_1 _ _ _) rfl ?_
        refine LW.store rfl rfl (by repeat (first | exact Take.head _ _ | apply Take.tail)) (by first | decide | exact Nat.lt_of_sub_pos (by rfl) | (simp; done) | simp [devHead]) FactsBin3.sz4 (rfl) ?_
        refine LW.nil ?_
        refine NW.then_ ?_
        refine CW.seq ?_
        refine CW.region ?_
        refine LW.assign rfl rfl ?_
        refine LW.nil ?_
        refine NW.then_ ?_
        refine CW.ret ?_
        refine NW.then_ret ?_
        refine NW.ret1 rfl rfl ⟨_, .inl ⟨hgz, rfl, rfl⟩, ?_⟩
        exact Sub.take (p := [_]) (by repeat (first | exact Take.head _ _ | apply Take.tail)) (Sub.one (by repeat (first | exact Take.head _ _ | apply Take.tail)))
      · refine QW.on 24 rfl rfl ?_
        refine QW.step (Yl.leq false rfl rfl (decide_eq_false (by omega))) rfl ?_
        refine QW.step (Yl.pickF rfl rfl) rfl ?_
        refine QW.nil ?_
        refine NW.then_ ?_
        refine CW.cond_false rfl ?_
        refine CW.skip ?_
        refine NW.then_ ?_
        refine CW.seq ?_
        refine CW.region ?_
        refine LW.move rfl rfl ?_
        refine LW.nilPtr rfl rfl ?_
        refine LW.fieldAddr _ rfl (fun _ => FactsBin3.fa92_0 _ _ _) rfl ?_
        refine LW.load rfl (by repeat (first | exact Take.head _ _ | apply Take.tail)) rfl FactsBin3.one41 rfl ?_
        refine LW.indexAt rfl rfl Tryf.underlying41 FactsBin3.ixs41 (by omega) (by omega) rfl ?_
        refine LW.loadRd (v := .int .u8 ((bs.getD 0 0).toNat : Int)) rfl (hs.rd (by repeat (first | exact Take.head _ _ | apply Take.tail))) (hget 0 (by omega)) FactsBin3.one5 rfl ?_
        refine LW.convInt (((bs.getD 0 0).toNat : Int)) rfl Tryf.underlying5 Tryf.underlying3 (by first | rfl | exact wr64 (by omega) (by omega) (by omega)) rfl ?_
        refine LW.assign rfl rfl ?_
        refine LW.nil ?_
        refine NW.then_ ?_
        refine CW.seq ?_
        generalize hk : (bs.getD 0 0).toNat = k at *
        refine CW.region ?_
        refine LW.assign rfl rfl ?_
        refine LW.nil ?_
        refine NW.then_ ?_
        refine CW.seq ?_
        refine CW.seq ?_
        refine CW.region ?_
        refine LW.move rfl rfl ?_
        refine LW.move rfl rfl ?_
        refine LW.nil ?_
        refine NW.then_ ?_
        refine CW.block ?_
        refine CW.loop (fun i : Nat => [(50, .int .i64 (i : Int)), (49, .int .i64 (k : Int)), (4, .int .i64 (accZ bs i)), (3, .int .i64 (k : Int)), (0, .pointer (some ⟨p, 0, none⟩))]) (fun _ => [[cr p 92 [.slice (some a) bs.length cp, .bool false]], ch]) (fun i => i ≤ k) (fun i => k - i) 0 ?st9_j ?st9_e ?st9_h ?st9_r
        case st9_j => exact Nat.zero_le _
        case st9_e => repeat (first | exact Env.Le.nil _ | refine Env.Le.cons rfl ?_)
        case st9_h => repeat (first | exact Sub.heap_nil _ | exact Sub.refl _ | refine Sub.heap_cons (Take.none _) ?_ | refine Sub.heap_cons (by repeat (first | exact Take.head _ _ | apply Take.tail)) ?_)
        case st9_r =>
          intro i hi
          refine CW.seq ?_
          refine CW.region ?_
          refine LW.lss (decide ((i : Int) < (k : Int))) rfl rfl (rfl) rfl ?_
          refine LW.nil ?_
          refine NW.then_ ?_
          refine CW.seq ?_
          refine CW.cond rfl (fun hc51 => ?_) (fun hc51 => ?_)
          · have hin : i < k := by simpa using hc51
            refine CW.skip ?_
            refine NW.then_ ?_
            refine CW.seq ?_
            refine CW.block ?_
            refine CW.seq ?_
            refine CW.region ?_
            refine LW.move rfl rfl ?_
            refine LW.assign rfl rfl ?_
            refine LW.nil ?_
            refine NW.then_ ?_
            refine CW.region ?_
            refine LW.move rfl rfl ?_
            refine LW.move rfl rfl ?_
            refine LW.nilPtr rfl rfl ?_
            refine LW.fieldAddr _ rfl (fun _ => FactsBin3.fa92_0 _ _ _) rfl ?_
            refine LW.load rfl (by repeat (first | exact Take.head _ _ | apply Take.tail)) rfl FactsBin3.one41 rfl ?_
            refine LW.move rfl rfl ?_
            refine LW.add (((1 + i : Nat) : Int)) rfl rfl (by first | rfl | exact wr64 (by omega) (by omega) (by omega)) rfl ?_
            refine LW.indexAt rfl rfl Tryf.underlying41 FactsBin3.ixs41 (by omega) (by omega) rfl ?_
            refine LW.loadRd (v := .int .u8 ((bs.getD (1 + i) 0).toNat : Int)) rfl (hs.rd (by repeat (first | exact Take.head _ _ | apply Take.tail))) (by rw [Int.toNat_natCast, Nat.mul_one]; exact hget (1 + i) (by omega)) FactsBin3.one5 rfl ?_
            refine LW.convInt (((bs.getD (1 + i) 0).toNat : Int)) rfl Tryf.underlying5 Tryf.underlying2 ((by have := (bs.getD (1 + i) 0).toNat_lt; exact wr64 rfl (by omega) (by omega))) rfl ?_
            refine LW.move rfl rfl ?_
            refine LW.mul ((8 * i : Int)) rfl rfl (by first | rfl | exact wr64 (by omega) (by omega) (by omega)) rfl ?_
            refine LW.shl (IntKind.i64.wrap (((bs.getD (1 + i) 0).toNat : Int) * 2 ^ (8 * i))) rfl rfl (by omega) (shl8 _ i (by omega)) rfl ?_
            refine LW.or_ (accZ bs (i + 1)) rfl rfl (by simp [accZ, List.range_succ, List.foldl_append]) rfl ?_
            refine LW.assign rfl rfl ?_
            refine LW.nil ?_
            refine NW.block ?_
            refine NW.then_ ?_
            refine CW.region ?_
            refine LW.add ((i + 1 : Int)) rfl rfl (by first | rfl | exact wr64 (by omega) (by omega) (by omega)) rfl ?_
            refine LW.move rfl rfl ?_
            refine LW.nil ?_
            refine NW.meet (i + 1) ?j1 ?e1 ?h1
            case j1 => exact ⟨hin, by omega⟩
            case e1 => repeat (first | exact Env.Le.nil _ | refine Env.Le.cons rfl ?_)
            case h1 => repeat (first | exact Sub.heap_nil _ | exact Sub.refl _ | refine Sub.heap_cons (Take.none _) ?_ | refine Sub.heap_cons (by repeat (first | exact Take.head _ _ | apply Take.tail)) ?_)
          · have hie : i = k := by have := of_decide_eq_false hc51; omega
            subst hie
            refine CW.exit ?_
            refine NW.then_exit ?_
            refine NW.then_exit ?_
            refine NW.block_exit ?_
            refine NW.then_ ?_
            refine CW.cut (fun _ : Unit => [(4, .int .i64 (numZ bs i)), (3, .int .i64 (i : Int)), (0, .pointer (some ⟨p, 0, none⟩))]) (fun _ => [[cr p 92 [.slice (some a) bs.length cp, .bool false]], ch]) (fun _ => True) ?cut15_1 ?cut15_2
            case cut15_1 =>
              refine CW.seq ?_
              refine CW.region ?_
              refine LW.move rfl rfl ?_
              refine LW.gtr (decide ((i : Int) > 0)) rfl rfl (rfl) rfl ?_
              refine LW.nil ?_
              refine NW.then_ ?_
              refine CW.cond rfl (fun hc69 => ?_) (fun hc69 => ?_)
              · have hk0 : i ≠ 0 := by have := of_decide_eq_true hc69; omega
                refine CW.region ?_
                refine LW.move rfl rfl ?_
                refine LW.move rfl rfl ?_
                refine LW.sub ((8 - i : Int)) rfl rfl (by first | rfl | exact wr64 (by omega) (by omega) (by omega)) rfl ?_
                refine LW.mul ((8 * (8 - i) : Int)) rfl rfl (by first | rfl | exact wr64 (by omega) (by omega) (by omega)) rfl ?_
                refine LW.shl (IntKind.i64.wrap (accZ bs i * 2 ^ (8 * (8 - i)))) rfl rfl (by omega) (shp _ i (by omega)) rfl ?_
                refine LW.move rfl rfl ?_
                refine LW.sub ((8 - i : Int)) rfl rfl (by first | rfl | exact wr64 (by omega) (by omega) (by omega)) rfl ?_
                refine LW.mul ((8 * (8 - i) : Int)) rfl rfl (by first | rfl | exact wr64 (by omega) (by omega) (by omega)) rfl ?_
                refine LW.shr (numZ bs i) rfl rfl (by omega) ((by rw [numZ, if_neg hk0]; exact shq _ i (by omega))) rfl ?_
                refine LW.assign rfl rfl ?_
                refine LW.nil ?_
                refine NW.meet (()) ?j2 ?e2 ?h2
                case j2 => exact trivial
                case e2 => repeat (first | exact Env.Le.nil _ | refine Env.Le.cons rfl ?_)
                case h2 => repeat (first | exact Sub.heap_nil _ | exact Sub.refl _ | refine Sub.heap_cons (Take.none _) ?_ | refine Sub.heap_cons (by repeat (first | exact Take.head _ _ | apply Take.tail)) ?_)
              · have hk0 : i = 0 := by have := of_decide_eq_false hc69; omega
                have hnz : numZ bs i = accZ bs i := by rw [hk0]; rfl
                refine CW.skip ?_
                refine NW.meet (()) ?j3 ?e3 ?h3
                case j3 => exact trivial
                case e3 => rw [hnz]; repeat (first | exact Env.Le.nil _ | refine Env.Le.cons rfl ?_)
                case h3 => repeat (first | exact Sub.heap_nil _ | exact Sub.refl _ | refine Sub.heap_cons (Take.none _) ?_ | refine Sub.heap_cons (by repeat (first | exact Take.head _ _ | apply Take.tail)) ?_)
            case cut15_2 =>
              rintro ⟨⟩ _
              refine CW.seq ?_
              refine CW.seq ?_
              refine CW.region ?_
              refine LW.move rfl rfl ?_
              refine LW.call (bin_size W B (numZ bs i)) Tryf.func37 rfl FactsBin3.fname37 ⟨rfl, trivial⟩ (Take.none _) rfl ?_
              rintro _ _ ⟨rfl, rfl⟩
              refine LW.move rfl rfl ?_
              by_cases hsz : sizeZ (numZ bs i) = i
              · refine LW.neq false rfl rfl (bne_eq_false_iff_eq.2 (by omega)) rfl ?_
                refine LW.nil ?_
                refine NW.then_ ?_
                refine CW.cond_false rfl ?_
                refine CW.skip ?_
                refine NW.then_ ?_
                refine CW.seq ?_
                have hgz : getZ bs = some (numZ bs i, i + 1) := by rw [getZ, if_neg hb0, hk, if_neg hb8, if_neg hlk, if_pos hsz]
                refine CW.region ?_
                refine LW.move rfl rfl ?_
                refine LW.move rfl rfl ?_
                refine LW.nilPtr rfl rfl ?_
                refine LW.fieldAddr _ rfl (fun _ => FactsBin3.fa92_0 _ _ _) rfl ?_
                refine LW.load rfl (by repeat (first | exact Take.head _ _ | apply Take.tail)) rfl FactsBin3.one41 rfl ?_
                refine LW.move rfl rfl ?_
                refine LW.add (((i + 1 : Nat) : Int)) rfl rfl (by first | rfl | exact wr64 (by omega) (by omega) (by omega)) rfl ?_
                refine LW.cut (i + 1) (bs.length) (cp) (some _) none none rfl Tryf.underlying41 FactsBin3.szt5 (fun a hf => congrArg some (hf.eval rfl)) (fun a hf => rfl) (fun a hf => rfl) (.inr ⟨_, rfl⟩) (.inl ⟨rfl, rfl, rfl⟩) (.inl ⟨rfl, rfl⟩) (by omega) (by omega) (by omega) (by omega) rfl ?_
                refine LW.nilPtr rfl rfl ?_
                refine LW.fieldAddr _ rfl (fun _ => FactsBin3.fa92_0 _ _ _) rfl ?_
                refine LW.store rfl rfl (by repeat (first | exact Take.head _ _ | apply Take.tail)) (by first | decide | exact Nat.lt_of_sub_pos (by rfl) | (simp; done) | simp [devHead]) FactsBin3.sz41 (rfl) ?_
                refine LW.nil ?_
                refine NW.then_ ?_
                refine CW.seq ?_
                refine CW.region ?_
                refine LW.move rfl rfl ?_
                refine LW.assign rfl rfl ?_
                refine LW.nil ?_
                refine NW.then_ ?_
                refine CW.ret ?_
                refine NW.ret1 rfl rfl ⟨_, .inr ⟨_, _, _, hgz, rfl, RdS.cut hs hc (i + 1) (by omega), rfl⟩, ?_⟩
                exact Sub.take (p := [_]) (by repeat (first | exact Take.head _ _ | apply Take.tail)) (Sub.one (by repeat (first | exact Take.head _ _ | apply Take.tail)))
              · refine LW.neq true rfl rfl (bne_iff_ne.2 (by omega)) rfl ?_
                refine LW.nil ?_
                refine NW.then_ ?_
                refine CW.cond_true rfl ?_
                refine CW.seq ?_
                have hgz : getZ bs = none := by rw [getZ, if_neg hb0, hk, if_neg hb8, if_neg hlk, if_neg hsz]
                refine CW.region ?_
                refine LW.move rfl rfl ?_
                refine LW.nilPtr rfl rfl ?_
                refine LW.fieldAddr _ rfl (fun _ => FactsBin3.fa92_1 _ _ _) rfl ?_
                refine LW.store rfl rfl (by repeat (first | exact Take.head _ _ | apply Take.tail)) (by first | decide | exact Nat.lt_of_sub_pos (by rfl) | (simp; done) | simp [devHead]) FactsBin3.sz4 (rfl) ?_
                refine LW.nil ?_
                refine NW.then_ ?_
                refine CW.seq ?_
                refine CW.region ?_
                refine LW.assign rfl rfl ?_
                refine LW.nil ?_
                refine NW.then_ ?_
                refine CW.ret ?_
                refine NW.then_ret ?_
                refine NW.ret1 rfl rfl ⟨_, .inl ⟨hgz, rfl, rfl⟩, ?_⟩
                exact Sub.take (p := [_]) (by repeat (first | exact Take.head _ _ | apply Take.tail)) (Sub.one (by repeat (first | exact Take.head _ _ | apply Take.tail)))

theorem bin_RInt_none (p : Nat) (v : Value) (bs : List UInt8) (ch : List Row) (hv : RdS W B v bs ch) (hlen : bs.length ≤ 1000000000) (hg : getZ bs = none) : Spec Tryf.prog W B 23 [.pointer (some ⟨p, 0, none⟩)] ([cr p 92 [v, .bool false]] ++ ch)
    (fun r post => r = .int .i64 0 ∧ post = [cr p 92 [v, .bool true]] ++ ch) :=
  (bin_RInt W B p v bs ch hv hlen).mono fun r post h => by
    rcases h with ⟨_, h⟩ | ⟨n, m, v', h, _⟩
    · exact h
    · rw [hg] at h; cases h
theorem bin_RInt_some (p : Nat) (v : Value) (bs : List UInt8) (ch : List Row) (hv : RdS W B v bs ch) (hlen : bs.length ≤ 1000000000) (n : Int) (m : Nat) (hg : getZ bs = some (n, m)) : Spec Tryf.prog W B 23 [.pointer (some ⟨p, 0, none⟩)] ([cr p 92 [v, .bool false]] ++ ch)
    (fun r post => r = .int .i64 n ∧ ∃ v', RdS W B v' (bs.drop m) ch ∧ post = [cr p 92 [v', .bool false]] ++ ch) :=
  (bin_RInt W B p v bs ch hv hlen).mono fun r post h => by
    rcases h with ⟨h, _⟩ | ⟨n', m', v', h, hr, hs, hp⟩
    · rw [hg] at h; cases h
    · rw [hg] at h; cases h; exact ⟨hr, v', hs, hp⟩
end
end Go.Proofs.YtemdebmfdhamgaaFmt
