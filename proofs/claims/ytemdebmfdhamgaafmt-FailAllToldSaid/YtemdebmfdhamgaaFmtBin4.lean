/-
  A READER's texts: their contracts.
-/
import Derived.Test.YtemdebmfdhamgaaFmtBin3
namespace Go.Proofs.YtemdebmfdhamgaaFmt
open Go.RowKit
namespace FactsBin4
theorem fa92_0 (b o : Nat) (w : World) : (Instr.fieldAt 92 (.pointer (some ⟨b, o, none⟩)) 0).run Tryf.prog w = .ok (.pointer (some ⟨b, o, none⟩)) w := by kernel_rfl
theorem fa92_1 (b o : Nat) (w : World) : (Instr.fieldAt 92 (.pointer (some ⟨b, o, none⟩)) 1).run Tryf.prog w = .ok (.pointer (some ⟨b, o + 1, none⟩)) w := by kernel_rfl
theorem fname23 : (Tryf.f23.name == "runtime.NumGoroutine") = false := by kernel_rfl
theorem fname38 : (Tryf.f38.name == "runtime.NumGoroutine") = false := by kernel_rfl
theorem one41 : oneB Tryf.prog 41 = true := by kernel_rfl
theorem sz4 : (Tryf.prog.info? 4).map (·.size) = some 1 := by kernel_rfl
theorem sz41 : (Tryf.prog.info? 41).map (·.size) = some 1 := by kernel_rfl
theorem szt5 : (Tryf.prog.info? 5).map (·.size) = some 1 := by kernel_rfl
end FactsBin4
section
variable (W : World) (B : Nat)
def rdr (p : Nat) (v : Value) (bad : Bool) (ch : List Row) : List Row := [cr p 92 [v, .bool bad]] ++ ch

theorem cutA_zero (A : Option Addr) (mx sz : Nat) : cutA A mx 0 sz = A := by
  unfold cutA
  split
  · rfl
  · cases A with
    | none => rfl
    | some a => simp [Addr.add]
theorem bin_RText_bad (p : Nat) (v : Value) (ch : List Row) (most : Int) : Spec Tryf.prog W B 24 [.pointer (some ⟨p, 0, none⟩), .int .i64 most] ([cr p 92 [v, .bool true]] ++ ch)
    (fun r post => r = strV [] ∧ post = [cr p 92 [v, .bool true]] ++ ch) := by
  refine Spec.enter ([[cr p 92 [v, .bool true]] ++ ch]) Tryf.func24 rfl Tryf.ntmps24 rfl (by first | rfl | simp) (fun w0 => ?_)
  refine CW.seq ?_
  refine CW.region ?_
  refine LW.assign rfl rfl ?_
  refine LW.nil ?_
  refine NW.then_ ?_
  refine CW.seq ?_
  refine CW.region ?_
  refine LW.move rfl rfl ?_
  refine LW.call (bin_RInt_bad W B p v ch) Tryf.func23 rfl FactsBin4.fname23 ⟨rfl, trivial⟩ (by repeat (first | exact Take.head _ _ | apply Take.tail)) rfl ?_
  rintro _ _ ⟨rfl, rfl⟩
  refine LW.assign rfl rfl ?_
  refine LW.nil ?_
  refine NW.then_ ?_
  refine CW.seq ?_
  refine CW.seq ?_
  refine CW.region ?_
  refine LW.move rfl rfl ?_
  refine LW.call (bin_Err W B p v true ch) Tryf.func38 rfl FactsBin4.fname38 ⟨rfl, trivial⟩ (by repeat (first | exact Take.head _ _ | apply Take.tail)) rfl ?_
  rintro _ _ ⟨rfl, rfl⟩
  refine LW.neq true rfl rfl (rfl) rfl ?_
  refine LW.nil ?_
  refine NW.then_ ?_
  refine CW.cond_true rfl ?_
  refine CW.seq ?_
  refine CW.region ?_
  refine LW.assign rfl rfl ?_
  refine LW.nil ?_
  refine NW.then_ ?_
  refine CW.ret ?_
  refine NW.then_ret ?_
  refine NW.ret1 rfl rfl ⟨_, ⟨rfl, rfl⟩, ?_⟩
  exact Sub.one (by repeat (first | exact Take.head _ _ | apply Take.tail))

theorem bin_RText_none (p : Nat) (v : Value) (bs : List UInt8) (ch : List Row) (hv : RdS W B v bs ch) (hlen : bs.length ≤ 1000000000) (hg : getZ bs = none) (most : Int) : Spec Tryf.prog W B 24 [.pointer (some ⟨p, 0, none⟩), .int .i64 most] ([cr p 92 [v, .bool false]] ++ ch)
    (fun r post => r = strV [] ∧ post = [cr p 92 [v, .bool true]] ++ ch) := by
  refine Spec.enter ([[cr p 92 [v, .bool false]] ++ ch]) Tryf.func24 rfl Tryf.ntmps24 rfl (by first | rfl | simp) (fun w0 => ?_)
  refine CW.seq ?_
  refine CW.region ?_
  refine LW.assign rfl rfl ?_
  refine LW.nil ?_
  refine NW.then_ ?_
  refine CW.seq ?_
  refine CW.region ?_
  refine LW.move rfl rfl ?_
  refine LW.call (bin_RInt_none W B p v bs ch hv hlen hg) Tryf.func23 rfl FactsBin4.fname23 ⟨rfl, trivial⟩ (by repeat (first | exact Take.head _ _ | apply Take.tail)) rfl ?_
  rintro _ _ ⟨rfl, rfl⟩
  refine LW.assign rfl rfl ?_
  refine LW.nil ?_
  refine NW.then_ ?_
  refine CW.seq ?_
  refine CW.seq ?_
  refine CW.region ?_
  refine LW.move rfl rfl ?_
  refine LW.call (bin_Err W B p v true ch) Tryf.func38 rfl FactsBin4.fname38 ⟨rfl, trivial⟩ (by repeat (first | exact Take.head _ _ | apply Take.tail)) rfl ?_
  rintro _ _ ⟨rfl, rfl⟩
  refine LW.neq true rfl rfl (rfl) rfl ?_
  refine LW.nil ?_
  refine NW.then_ ?_
  refine CW.cond_true rfl ?_
  refine CW.seq ?_
  refine CW.region ?_
  refine LW.assign rfl rfl ?_
  refine LW.nil ?_
  refine NW.then_ ?_
  refine CW.ret ?_
  refine NW.then_ret ?_
  refine NW.ret1 rfl rfl ⟨_, ⟨rfl, rfl⟩, ?_⟩
  exact Sub.one (by repeat (first | exact Take.head _ _ | apply Take.tail))

theorem bin_RText (p : Nat) (v : Value) (bs : List UInt8) (ch : List Row) (hv : RdS W B v bs ch) (hlen : bs.length ≤ 1000000000) (n : Int) (m : Nat) (hg : getZ bs = some (n, m)) (most : Int) : Spec Tryf.prog W B 24 [.pointer (some ⟨p, 0, none⟩), .int .i64 most] ([cr p 92 [v, .bool false]] ++ ch)
    (fun r post => (¬ (0 ≤ n ∧ n ≤ most ∧ n ≤ ((bs.drop m).length : Int)) ∧ r = strV [] ∧ ∃ v', post = [cr p 92 [v', .bool true]] ++ ch) ∨
      ((0 ≤ n ∧ n ≤ most ∧ n ≤ ((bs.drop m).length : Int)) ∧ r = strV ((bs.drop m).take n.toNat) ∧ ∃ v', RdS W B v' ((bs.drop m).drop n.toNat) ch ∧ post = [cr p 92 [v', .bool false]] ++ ch)) := by
  have hdl : (bs.drop m).length ≤ bs.length := by rw [List.length_drop]; omega
  refine Spec.enter ([[cr p 92 [v, .bool false]] ++ ch]) Tryf.func24 rfl Tryf.ntmps24 rfl (by first | rfl | simp) (fun w0 => ?_)
  refine CW.seq ?_
  refine CW.region ?_
  refine LW.assign rfl rfl ?_
  refine LW.nil ?_
  refine NW.then_ ?_
  refine CW.seq ?_
  refine CW.region ?_
  refine LW.move rfl rfl ?_
  refine LW.call (bin_RInt_some W B p v bs ch hv hlen n m hg) Tryf.func23 rfl FactsBin4.fname23 ⟨rfl, trivial⟩ (by repeat (first | exact Take.head _ _ | apply Take.tail)) rfl ?_
  rintro _ _ ⟨rfl, v', hv', rfl⟩; obtain ⟨A, cp, rfl, hc, hs⟩ := hv'; generalize hds : bs.drop m = ds at *
  refine LW.assign rfl rfl ?_
  refine LW.nil ?_
  refine NW.then_ ?_
  refine CW.seq ?_
  refine CW.seq ?_
  refine CW.region ?_
  refine LW.move rfl rfl ?_
  refine LW.call (bin_Err W B p (.slice A ds.length cp) false ch) Tryf.func38 rfl FactsBin4.fname38 ⟨rfl, trivial⟩ (by repeat (first | exact Take.head _ _ | apply Take.tail)) rfl ?_
  rintro _ _ ⟨rfl, rfl⟩; refine LW.split2 ?_
  refine LW.neq false rfl rfl (rfl) rfl ?_
  refine LW.nil ?_
  refine NW.then_ ?_
  refine CW.cond_false rfl ?_
  refine CW.skip ?_
  refine NW.then_ ?_
  refine CW.seq ?_
  refine CW.seq ?_
  refine CW.region ?_
  refine LW.move rfl rfl ?_
  by_cases h13 : n < 0
  · refine LW.lss true rfl rfl (decide_eq_true (by omega)) rfl ?_
    refine LW.move rfl rfl ?_
    refine LW.off 14 rfl rfl rfl rfl ?_
    refine LW.off 14 rfl rfl rfl rfl ?_
    refine LW.off 14 rfl rfl rfl rfl ?_
    refine LW.pickT rfl rfl rfl ?_
    refine LW.move rfl rfl ?_
    refine LW.off 19 rfl rfl rfl rfl ?_
    refine LW.off 19 rfl rfl rfl rfl ?_
    refine LW.off 19 rfl rfl rfl rfl ?_
    refine LW.off 19 rfl rfl rfl rfl ?_
    refine LW.off 19 rfl rfl rfl rfl ?_
    refine LW.off 19 rfl rfl rfl rfl ?_
    refine LW.off 19 rfl rfl rfl rfl ?_
    refine LW.pickT rfl rfl rfl ?_
    refine LW.nil ?_
    refine NW.then_ ?_
    refine CW.cond_true rfl ?_
    refine CW.seq ?_
    refine CW.region ?_
    refine LW.move rfl rfl ?_
    refine LW.nilPtr rfl rfl ?_
    refine LW.fieldAddr _ rfl (fun _ => FactsBin4.fa92_1 _ _ _) rfl ?_
    refine LW.store rfl rfl (by repeat (first | exact Take.head _ _ | apply Take.tail)) (by first | decide | exact Nat.lt_of_sub_pos (by rfl) | (simp; done) | simp [devHead]) FactsBin4.sz4 (rfl) ?_
    refine LW.nil ?_
    refine NW.then_ ?_
    refine CW.seq ?_
    refine CW.region ?_
    refine LW.assign rfl rfl ?_
    refine LW.nil ?_
    refine NW.then_ ?_
    refine CW.ret ?_
    refine NW.then_ret ?_
    refine NW.ret1 rfl rfl ⟨_, .inl ⟨by omega, rfl, .slice A ds.length cp, rfl⟩, ?_⟩
    exact Sub.take (p := [_]) (by repeat (first | exact Take.head _ _ | apply Take.tail)) (Sub.one (by repeat (first | exact Take.head _ _ | apply Take.tail)))
  · refine LW.lss false rfl rfl (decide_eq_false (by omega)) rfl ?_
    refine LW.move rfl rfl ?_
    refine LW.on 14 rfl rfl ?_
    refine LW.move rfl rfl ?_
    refine LW.on 14 rfl rfl ?_
    refine LW.move rfl rfl ?_
    by_cases h17 : most < n
    · refine LW.on 14 rfl rfl ?_
      refine LW.gtr true rfl rfl (decide_eq_true (by omega)) rfl ?_
      refine LW.pickF rfl rfl rfl ?_
      refine LW.move rfl rfl ?_
      refine LW.off 19 rfl rfl rfl rfl ?_
      refine LW.off 19 rfl rfl rfl rfl ?_
      refine LW.off 19 rfl rfl rfl rfl ?_
      refine LW.off 19 rfl rfl rfl rfl ?_
      refine LW.off 19 rfl rfl rfl rfl ?_
      refine LW.off 19 rfl rfl rfl rfl ?_
      refine LW.off 19 rfl rfl rfl rfl ?_
      refine LW.pickT rfl rfl rfl ?_
      refine LW.nil ?_
      refine NW.then_ ?_
      refine CW.cond_true rfl ?_
      refine CW.seq ?_
      refine CW.region ?_
      refine LW.move rfl rfl ?_
      refine LW.nilPtr rfl rfl ?_
      refine LW.fieldAddr _ rfl (fun _ => FactsBin4.fa92_1 _ _ _) rfl ?_
      refine LW.store rfl rfl (by repeat (first | exact Take.head _ _ | apply Take.tail)) (by first | decide | exact Nat.lt_of_sub_pos (by rfl) | (simp; done) | simp [devHead]) FactsBin4.sz4 (rfl) ?_
      refine LW.nil ?_
      refine NW.then_ ?_
      refine CW.seq ?_
      refine CW.region ?_
      refine LW.assign rfl rfl ?_
      refine LW.nil ?_
      refine NW.then_ ?_
      refine CW.ret ?_
      refine NW.then_ret ?_
      refine NW.ret1 rfl rfl ⟨_, .inl ⟨by omega, rfl, .slice A ds.length cp, rfl⟩, ?_⟩
      exact Sub.take (p := [_]) (by repeat (first | exact Take.head _ _ | apply Take.tail)) (Sub.one (by repeat (first | exact Take.head _ _ | apply Take.tail)))
    · refine LW.on 14 rfl rfl ?_
      refine LW.gtr false rfl rfl (decide_eq_false (by omega)) rfl ?_
      refine LW.pickF rfl rfl rfl ?_
      refine LW.move rfl rfl ?_
      refine LW.on 19 rfl rfl ?_
      refine LW.move rfl rfl ?_
      refine LW.on 19 rfl rfl ?_
      refine LW.move rfl rfl ?_
      refine LW.on 19 rfl rfl ?_
      refine LW.nilPtr rfl rfl ?_
      refine LW.on 19 rfl rfl ?_
      refine LW.fieldAddr _ rfl (fun _ => FactsBin4.fa92_0 _ _ _) rfl ?_
      refine LW.on 19 rfl rfl ?_
      refine LW.load rfl (by repeat (first | exact Take.head _ _ | apply Take.tail)) rfl FactsBin4.one41 rfl ?_
      refine LW.on 19 rfl rfl ?_
      refine LW.lenSlice rfl Tryf.underlying41 rfl ?_
      by_cases h26 : (ds.length : Int) < n
      · refine LW.on 19 rfl rfl ?_
        refine LW.gtr true rfl rfl (decide_eq_true (by omega)) rfl ?_
        refine LW.pickF rfl rfl rfl ?_
        refine LW.nil ?_
        refine NW.then_ ?_
        refine CW.cond_true rfl ?_
        refine CW.seq ?_
        refine CW.region ?_
        refine LW.move rfl rfl ?_
        refine LW.nilPtr rfl rfl ?_
        refine LW.fieldAddr _ rfl (fun _ => FactsBin4.fa92_1 _ _ _) rfl ?_
        refine LW.store rfl rfl (by repeat (first | exact Take.head _ _ | apply Take.tail)) (by first | decide | exact Nat.lt_of_sub_pos (by rfl) | (simp; done) | simp [devHead]) FactsBin4.sz4 (rfl) ?_
        refine LW.nil ?_
        refine NW.then_ ?_
        refine CW.seq ?_
        refine CW.region ?_
        refine LW.assign rfl rfl ?_
        refine LW.nil ?_
        refine NW.then_ ?_
        refine CW.ret ?_
        refine NW.then_ret ?_
        refine NW.ret1 rfl rfl ⟨_, .inl ⟨by omega, rfl, .slice A ds.length cp, rfl⟩, ?_⟩
        exact Sub.take (p := [_]) (by repeat (first | exact Take.head _ _ | apply Take.tail)) (Sub.one (by repeat (first | exact Take.head _ _ | apply Take.tail)))
      · refine LW.on 19 rfl rfl ?_
        refine LW.gtr false rfl rfl (decide_eq_false (by omega)) rfl ?_
        refine LW.pickF rfl rfl rfl ?_
        refine LW.nil ?_
        refine NW.then_ ?_
        refine CW.cond_false rfl ?_
        refine CW.skip ?_
        refine NW.then_ ?_
        refine CW.seq ?_
        obtain ⟨k, rfl⟩ : ∃ k : Nat, n = (k : Int) := ⟨n.toNat, by omega⟩
        refine CW.region ?_
        refine LW.move rfl rfl ?_
        refine LW.nilPtr rfl rfl ?_
        refine LW.fieldAddr _ rfl (fun _ => FactsBin4.fa92_0 _ _ _) rfl ?_
        refine LW.load rfl (by repeat (first | exact Take.head _ _ | apply Take.tail)) rfl FactsBin4.one41 rfl ?_
        refine LW.move rfl rfl ?_
        refine LW.cut (0) (k) (cp) none (some _) none rfl Tryf.underlying41 FactsBin4.szt5 (fun a hf => rfl) (fun a hf => congrArg some (hf.eval rfl)) (fun a hf => rfl) (.inl ⟨rfl, rfl⟩) (.inr ⟨_, rfl⟩) (.inl ⟨rfl, rfl⟩) (by omega) (by omega) (by omega) (by omega) rfl ?_
        refine LW.bytesStr (ds.take k) rfl Tryf.underlying41 Tryf.underlying5 Tryf.underlying9 (by rw [List.map_take, cutA_zero]; exact (hs.rd (by repeat (first | exact Take.head _ _ | apply Take.tail))).sub k) (by rw [List.length_take]; omega) rfl ?_
        refine LW.assign rfl rfl ?_
        refine LW.nil ?_
        refine NW.then_ ?_
        refine CW.seq ?_
        refine CW.region ?_
        refine LW.move rfl rfl ?_
        refine LW.move rfl rfl ?_
        refine LW.nilPtr rfl rfl ?_
        refine LW.fieldAddr _ rfl (fun _ => FactsBin4.fa92_0 _ _ _) rfl ?_
        refine LW.load rfl (by repeat (first | exact Take.head _ _ | apply Take.tail)) rfl FactsBin4.one41 rfl ?_
        refine LW.move rfl rfl ?_
        refine LW.cut (k) (ds.length) (cp) (some _) none none rfl Tryf.underlying41 FactsBin4.szt5 (fun a hf => congrArg some (hf.eval rfl)) (fun a hf => rfl) (fun a hf => rfl) (.inr ⟨_, rfl⟩) (.inl ⟨rfl, rfl, rfl⟩) (.inl ⟨rfl, rfl⟩) (by omega) (by omega) (by omega) (by omega) rfl ?_
        refine LW.nilPtr rfl rfl ?_
        refine LW.fieldAddr _ rfl (fun _ => FactsBin4.fa92_0 _ _ _) rfl ?_
        refine LW.store rfl rfl (by repeat (first | exact Take.head _ _ | apply Take.tail)) (by first | decide | exact Nat.lt_of_sub_pos (by rfl) | (simp; done) | simp [devHead]) FactsBin4.sz41 (rfl) ?_
        refine LW.nil ?_
        refine NW.then_ ?_
        refine CW.seq ?_
        refine CW.region ?_
        refine LW.move rfl rfl ?_
        refine LW.assign rfl rfl ?_
        refine LW.nil ?_
        refine NW.then_ ?_
        refine CW.ret ?_
        refine NW.ret1 rfl rfl ⟨_, .inr ⟨⟨by omega, by omega, by omega⟩, rfl, _, RdS.cut hs hc k (by omega), rfl⟩, ?_⟩
        exact Sub.take (p := [_]) (by repeat (first | exact Take.head _ _ | apply Take.tail)) (Sub.one (by repeat (first | exact Take.head _ _ | apply Take.tail)))
end
end Go.Proofs.YtemdebmfdhamgaaFmt
