/-
  A WRITER's texts and bytes; a reader made; its small methods.
-/
import Derived.Test.YtemdebmfdhamgaaFmtBin1
namespace Go.Proofs.YtemdebmfdhamgaaFmt
open Go.RowKit
namespace FactsBin2
theorem fa47_0 (b o : Nat) (w : World) : (Instr.fieldAt 47 (.pointer (some ⟨b, o, none⟩)) 0).run Tryf.prog w = .ok (.pointer (some ⟨b, o, none⟩)) w := by kernel_rfl
theorem fa92_0 (b o : Nat) (w : World) : (Instr.fieldAt 92 (.pointer (some ⟨b, o, none⟩)) 0).run Tryf.prog w = .ok (.pointer (some ⟨b, o, none⟩)) w := by kernel_rfl
theorem fa92_1 (b o : Nat) (w : World) : (Instr.fieldAt 92 (.pointer (some ⟨b, o, none⟩)) 1).run Tryf.prog w = .ok (.pointer (some ⟨b, o + 1, none⟩)) w := by kernel_rfl
theorem fname19 : (Tryf.f19.name == "runtime.NumGoroutine") = false := by kernel_rfl
theorem fname38 : (Tryf.f38.name == "runtime.NumGoroutine") = false := by kernel_rfl
theorem info2 : (Tryf.prog.info? 2).map (fun i => (i.zero, i.size, i.bytes)) = some (some (.int .i64 0), 1, 8) := by kernel_rfl
theorem info5 : (Tryf.prog.info? 5).map (fun i => (i.zero, i.size, i.bytes)) = some (some (.int .u8 0), 1, 1) := by kernel_rfl
theorem one4 : oneB Tryf.prog 4 = true := by kernel_rfl
theorem one41 : oneB Tryf.prog 41 = true := by kernel_rfl
theorem sz41 : (Tryf.prog.info? 41).map (·.size) = some 1 := by kernel_rfl
end FactsBin2
section
variable (W : World) (B : Nat)

theorem bin_WText (w : Nat) (v : Value) (bs : List UInt8) (ch : List Row) (ho : OwnB v bs ch) (s : List UInt8) (hb : bs.length + 9 + s.length ≤ 1000000000) :
    Spec Tryf.prog W B 20 [.pointer (some ⟨w, 0, none⟩), strV s] ([cr w 47 [v]] ++ ch)
      (fun r post => r = .tuple #[] ∧ ∃ v' ch', OwnB v' (bs ++ encZ (s.length : Int) ++ s) ch' ∧ post = [cr w 47 [v']] ++ ch') := by
  have hI : I64 (s.length : Int) := ⟨by omega, by omega⟩
  have hel := sizeZ_le (s.length : Int)
  have hl : (encZ (s.length : Int)).length ≤ 9 := by rw [encZ_len]; omega
  refine Spec.enter ([[cr w 47 [v]], ch]) Tryf.func20 rfl Tryf.ntmps20 rfl (by first | rfl | simp) (fun w0 => ?_)
  refine CW.seq ?_
  refine CW.region ?_
  refine LW.move rfl rfl ?_
  refine LW.ptrNotNil _ rfl Tryf.underlying88 rfl rfl ?_
  refine LW.nil ?_
  refine NW.then_ ?_
  refine CW.cond_true rfl ?_
  refine CW.seq ?_
  refine CW.region ?_
  refine LW.move rfl rfl ?_
  refine LW.move rfl rfl ?_
  refine LW.lenString rfl Tryf.underlying9 rfl ?_
  refine LW.buildSlice (vs := [_]) ⟨rfl, trivial⟩ rfl (by intro v hv; simp at hv; subst hv; rfl) Tryf.underlying89 FactsBin2.info2 rfl (by decide) (by decide) rfl ?_
  intro bs9
  refine LW.call (bin_WInt W B w v bs ch ho [(s.length : Int)] (by intro n hn; simp at hn; subst hn; exact hI) [cr bs9 2 [.int .i64 (s.length : Int)]] (some ⟨bs9, 0, none⟩) 1 (Src.row (fun j v hj => by rw [Nat.zero_add]; exact hj)) (by simp; omega)) Tryf.func19 rfl FactsBin2.fname19 ⟨rfl, rfl, trivial⟩ (Take.both (by repeat (first | exact Take.head _ _ | apply Take.tail)) (Take.both (by repeat (first | exact Take.head _ _ | apply Take.tail)) (by repeat (first | exact Take.head _ _ | apply Take.tail)))) rfl ?_
  rintro _ _ ⟨rfl, v1, ch1, ho1, rfl⟩; refine LW.split2 (LW.split2p ?_)
  refine LW.nil ?_
  refine NW.then_ ?_
  have he1 : encs [(s.length : Int)] = encZ (s.length : Int) := by simp [encs]
  rw [he1] at ho1
  refine CW.region ?_
  refine LW.move rfl rfl ?_
  refine LW.move rfl rfl ?_
  refine LW.nilPtr rfl rfl ?_
  refine LW.fieldAddr _ rfl (fun _ => FactsBin2.fa47_0 _ _ _) rfl ?_
  refine LW.load rfl (by repeat (first | exact Take.head _ _ | apply Take.tail)) rfl FactsBin2.one41 rfl ?_
  refine LW.move rfl rfl ?_
  refine LW.append (s.map u8v) rfl rfl Tryf.underlying41 Tryf.underlying9 (.inl rfl) FactsBin2.info5 rfl (ho1) (by repeat (first | exact Take.head _ _ | apply Take.tail)) (fun _ => lenOf_string _ _) (fun w' _ => first_string _ _) (by simp [ByteArray.size]) (u8vs_one _) (by simp only [List.length_append, List.size_toArray, ByteArray.size]; omega) (by simp only [List.length_append, List.size_toArray, ByteArray.size]; omega) rfl ?_
  intro v4 ch4 ho4; have hv4 := OwnS.one ho4; replace ho4 := OwnB.app ho4 rfl rfl
  refine LW.nilPtr rfl rfl ?_
  refine LW.fieldAddr _ rfl (fun _ => FactsBin2.fa47_0 _ _ _) rfl ?_
  refine LW.store rfl rfl (by repeat (first | exact Take.head _ _ | apply Take.tail)) (by exact Nat.one_pos) FactsBin2.sz41 (hv4) ?_
  refine LW.nil ?_
  refine NW.end0 rfl  ⟨_, ⟨rfl, v4, ch4, ho4, rfl⟩, ?_⟩
  exact Sub.take (p := [_]) (by repeat (first | exact Take.head _ _ | apply Take.tail)) (Sub.one (by repeat (first | exact Take.head _ _ | apply Take.tail)))

theorem bin_WBytes (w : Nat) (v : Value) (bs : List UInt8) (ch : List Row) (ho : OwnB v bs ch) (hb : bs.length ≤ 1000000000) :
    Spec Tryf.prog W B 22 [.pointer (some ⟨w, 0, none⟩)] ([cr w 47 [v]] ++ ch)
      (fun r post => ∃ ch', OwnB r bs ch' ∧ post = ch' ++ ([cr w 47 [v]] ++ ch)) := by
  obtain ⟨A, cp, rfl, hA, hc⟩ := OwnS.val ho
  refine Spec.enter ([[cr w 47 [.slice A bs.length cp]], ch]) Tryf.func22 rfl Tryf.ntmps22 rfl (by first | rfl | simp) (fun w0 => ?_)
  refine CW.seq ?_
  refine CW.region ?_
  refine LW.assign rfl rfl ?_
  refine LW.nil ?_
  refine NW.then_ ?_
  refine CW.seq ?_
  refine CW.seq ?_
  refine CW.region ?_
  refine LW.move rfl rfl ?_
  refine LW.ptrNil _ rfl Tryf.underlying88 rfl rfl ?_
  refine LW.nil ?_
  refine NW.then_ ?_
  refine CW.cond_false rfl ?_
  refine CW.skip ?_
  refine NW.then_ ?_
  refine CW.seq ?_
  refine CW.region ?_
  refine LW.move rfl rfl ?_
  refine LW.nilPtr rfl rfl ?_
  refine LW.fieldAddr _ rfl (fun _ => FactsBin2.fa47_0 _ _ _) rfl ?_
  refine LW.load rfl (by repeat (first | exact Take.head _ _ | apply Take.tail)) rfl FactsBin2.one41 rfl ?_
  refine LW.append (bs.map u8v) rfl rfl Tryf.underlying41 Tryf.underlying41 (.inr ⟨_, rfl⟩) FactsBin2.info5 rfl (OwnB.nil) (Take.none _) (fun _ => lenOf_slice _ _ _ _) (first_rd ((OwnS.src (W := W) (B := B) ho).rd (by repeat (first | exact Take.head _ _ | apply Take.tail))) (by simp) hA) (by simp) (u8vs_one _) (by simp only [List.length_nil]; omega) (by simp only [List.length_nil]; omega) rfl ?_
  intro v4 ch4 ho4; replace ho4 := OwnB.app ho4 rfl rfl
  refine LW.assign rfl rfl ?_
  refine LW.nil ?_
  refine NW.then_ ?_
  refine CW.ret ?_
  refine NW.ret1 rfl rfl ⟨_, ⟨ch4, ho4, rfl⟩, ?_⟩
  exact Sub.take (by repeat (first | exact Take.head _ _ | apply Take.tail)) (Sub.take (p := [_]) (by repeat (first | exact Take.head _ _ | apply Take.tail)) (Sub.one (by repeat (first | exact Take.head _ _ | apply Take.tail))))

theorem bin_NewReader (src : List Row) (A : Option Addr) (cp : Nat) (bs : List UInt8) (hsrc : Src W B src A (bs.map u8v)) (hA : A = none → bs.length = 0) (hb : bs.length ≤ 1000000000) :
    Spec Tryf.prog W B 21 [.slice A bs.length cp] src
      (fun r post => ∃ p v ch, r = .pointer (some ⟨p, 0, none⟩) ∧ RdS W B v bs ch ∧ post = src ++ ([cr p 92 [v, .bool false]] ++ ch)) := by
  refine Spec.enter ([src]) Tryf.func21 rfl Tryf.ntmps21 rfl (by first | rfl | simp) (fun w0 => ?_)
  refine CW.seq ?_
  refine CW.region ?_
  refine LW.assign rfl rfl ?_
  refine LW.nil ?_
  refine NW.then_ ?_
  refine CW.seq ?_
  refine CW.region ?_
  refine LW.move rfl rfl ?_
  refine LW.append (bs.map u8v) rfl rfl Tryf.underlying41 Tryf.underlying41 (.inr ⟨_, rfl⟩) FactsBin2.info5 rfl (OwnB.nil) (Take.none _) (fun _ => lenOf_slice _ _ _ _) (first_rd (hsrc.rd (by repeat (first | exact Take.head _ _ | apply Take.tail))) (by simp) hA) (by simp) (u8vs_one _) (by simp only [List.length_nil]; omega) (by simp only [List.length_nil]; omega) rfl ?_
  intro v4 ch4 ho4; replace ho4 := OwnB.app ho4 rfl rfl; obtain ⟨A4, cp4, rfl, _, _⟩ := OwnS.val ho4
  refine LW.build (vs := [_]) (#[.slice A4 bs.length cp4, .bool false]) ⟨rfl, trivial⟩ (by kernel_rfl) rfl ?_
  refine LW.box rfl rfl ?_
  intro bb6
  refine LW.assign rfl rfl ?_
  refine LW.nil ?_
  refine NW.then_ ?_
  refine CW.ret ?_
  refine NW.ret1 rfl rfl ⟨_, ⟨bb6, _, ch4, rfl, RdS.of ho4, rfl⟩, ?_⟩
  exact Sub.take (p := src) (by repeat (first | exact Take.head _ _ | apply Take.tail)) (Sub.take (p := [_]) (by repeat (first | exact Take.head _ _ | apply Take.tail)) (Sub.one (by repeat (first | exact Take.head _ _ | apply Take.tail))))

theorem bin_Err (p : Nat) (v : Value) (bad : Bool) (ch : List Row) :
    Spec Tryf.prog W B 38 [.pointer (some ⟨p, 0, none⟩)] ([cr p 92 [v, .bool bad]] ++ ch)
      (fun r post => r = .int .i64 (if bad then 1 else 0) ∧ post = [cr p 92 [v, .bool bad]] ++ ch) := by
  cases bad
  ·
    refine Spec.enter ([[cr p 92 [v, .bool false]], ch]) Tryf.func38 rfl Tryf.ntmps38 rfl (by first | rfl | simp) (fun w0 => ?_)
    refine CW.seq ?_
    refine CW.region ?_
    refine LW.assign rfl rfl ?_
    refine LW.nil ?_
    refine NW.then_ ?_
    refine CW.seq ?_
    refine CW.seq ?_
    refine CW.region ?_
    refine LW.move rfl rfl ?_
    refine LW.ptrNil _ rfl Tryf.underlying50 rfl rfl ?_
    refine LW.move rfl rfl ?_
    refine LW.on 5 rfl rfl ?_
    refine LW.move rfl rfl ?_
    refine LW.on 5 rfl rfl ?_
    refine LW.nilPtr rfl rfl ?_
    refine LW.on 5 rfl rfl ?_
    refine LW.fieldAddr _ rfl (fun _ => FactsBin2.fa92_1 _ _ _) rfl ?_
    refine LW.on 5 rfl rfl ?_
    refine LW.load rfl (by repeat (first | exact Take.head _ _ | apply Take.tail)) rfl FactsBin2.one4 rfl ?_
    refine LW.pickF rfl rfl rfl ?_
    refine LW.nil ?_
    refine NW.then_ ?_
    refine CW.cond_false rfl ?_
    refine CW.skip ?_
    refine NW.then_ ?_
    refine CW.seq ?_
    refine CW.region ?_
    refine LW.assign rfl rfl ?_
    refine LW.nil ?_
    refine NW.then_ ?_
    refine CW.ret ?_
    refine NW.ret1 rfl rfl ⟨_, ⟨rfl, rfl⟩, ?_⟩
    exact Sub.take (p := [_]) (by repeat (first | exact Take.head _ _ | apply Take.tail)) (Sub.one (by repeat (first | exact Take.head _ _ | apply Take.tail)))
  ·
    refine Spec.enter ([[cr p 92 [v, .bool true]], ch]) Tryf.func38 rfl Tryf.ntmps38 rfl (by first | rfl | simp) (fun w0 => ?_)
    refine CW.seq ?_
    refine CW.region ?_
    refine LW.assign rfl rfl ?_
    refine LW.nil ?_
    refine NW.then_ ?_
    refine CW.seq ?_
    refine CW.seq ?_
    refine CW.region ?_
    refine LW.move rfl rfl ?_
    refine LW.ptrNil _ rfl Tryf.underlying50 rfl rfl ?_
    refine LW.move rfl rfl ?_
    refine LW.on 5 rfl rfl ?_
    refine LW.move rfl rfl ?_
    refine LW.on 5 rfl rfl ?_
    refine LW.nilPtr rfl rfl ?_
    refine LW.on 5 rfl rfl ?_
    refine LW.fieldAddr _ rfl (fun _ => FactsBin2.fa92_1 _ _ _) rfl ?_
    refine LW.on 5 rfl rfl ?_
    refine LW.load rfl (by repeat (first | exact Take.head _ _ | apply Take.tail)) rfl FactsBin2.one4 rfl ?_
    refine LW.pickF rfl rfl rfl ?_
    refine LW.nil ?_
    refine NW.then_ ?_
    refine CW.cond_true rfl ?_
    refine CW.seq ?_
    refine CW.region ?_
    refine LW.assign rfl rfl ?_
    refine LW.nil ?_
    refine NW.then_ ?_
    refine CW.ret ?_
    refine NW.then_ret ?_
    refine NW.ret1 rfl rfl ⟨_, ⟨rfl, rfl⟩, ?_⟩
    exact Sub.take (p := [_]) (by repeat (first | exact Take.head _ _ | apply Take.tail)) (Sub.one (by repeat (first | exact Take.head _ _ | apply Take.tail)))

theorem bin_End (p : Nat) (v : Value) (bad : Bool) (bs : List UInt8) (ch : List Row) (hv : RdS W B v bs ch) :
    Spec Tryf.prog W B 25 [.pointer (some ⟨p, 0, none⟩)] ([cr p 92 [v, .bool bad]] ++ ch)
      (fun r post => r = .int .i64 (if bad then 1 else if bs.length = 0 then 0 else 1) ∧ post = [cr p 92 [v, .bool bad]] ++ ch) := by
  obtain ⟨A, cp, rfl, hc, hs⟩ := hv
  cases bad
  · rw [if_neg (by simp)]
    by_cases h0 : bs.length = 0
    · rw [if_pos h0]
      refine Spec.enter ([[cr p 92 [.slice A bs.length cp, .bool false]], ch]) Tryf.func25 rfl Tryf.ntmps25 rfl (by first | rfl | simp) (fun w0 => ?_)
      refine CW.seq ?_
      refine CW.region ?_
      refine LW.assign rfl rfl ?_
      refine LW.nil ?_
      refine NW.then_ ?_
      refine CW.seq ?_
      refine CW.seq ?_
      refine CW.region ?_
      refine LW.move rfl rfl ?_
      refine LW.call (bin_Err W B p (.slice A bs.length cp) false ch) Tryf.func38 rfl FactsBin2.fname38 ⟨rfl, trivial⟩ (Take.both (by repeat (first | exact Take.head _ _ | apply Take.tail)) (by repeat (first | exact Take.head _ _ | apply Take.tail))) rfl ?_
      rintro _ _ ⟨rfl, rfl⟩; refine LW.split2 ?_
      refine LW.neq false rfl rfl (rfl) rfl ?_
      refine LW.move rfl rfl ?_
      refine LW.on 6 rfl rfl ?_
      refine LW.move rfl rfl ?_
      refine LW.on 6 rfl rfl ?_
      refine LW.nilPtr rfl rfl ?_
      refine LW.on 6 rfl rfl ?_
      refine LW.fieldAddr _ rfl (fun _ => FactsBin2.fa92_0 _ _ _) rfl ?_
      refine LW.on 6 rfl rfl ?_
      refine LW.load rfl (by repeat (first | exact Take.head _ _ | apply Take.tail)) rfl FactsBin2.one41 rfl ?_
      refine LW.on 6 rfl rfl ?_
      refine LW.lenSlice rfl Tryf.underlying41 rfl ?_
      refine LW.on 6 rfl rfl ?_
      refine LW.gtr false rfl rfl (decide_eq_false (by omega)) rfl ?_
      refine LW.pickF rfl rfl rfl ?_
      refine LW.nil ?_
      refine NW.then_ ?_
      refine CW.cond_false rfl ?_
      refine CW.skip ?_
      refine NW.then_ ?_
      refine CW.seq ?_
      refine CW.region ?_
      refine LW.assign rfl rfl ?_
      refine LW.nil ?_
      refine NW.then_ ?_
      refine CW.ret ?_
      refine NW.ret1 rfl rfl ⟨_, ⟨rfl, rfl⟩, ?_⟩
      exact Sub.take (p := [_]) (by repeat (first | exact Take.head _ _ | apply Take.tail)) (Sub.one (by repeat (first | exact Take.head _ _ | apply Take.tail)))
    · rw [if_neg h0]
      refine Spec.enter ([[cr p 92 [.slice A bs.length cp, .bool false]], ch]) Tryf.func25 rfl Tryf.ntmps25 rfl (by first | rfl | simp) (fun w0 => ?_)
      refine CW.seq ?_
      refine CW.region ?_
      refine LW.assign rfl rfl ?_
      refine LW.nil ?_
      refine NW.then_ ?_
      refine CW.seq ?_
      refine CW.seq ?_
      refine CW.region ?_
      refine LW.move rfl rfl ?_
      refine LW.call (bin_Err W B p (.slice A bs.length cp) false ch) Tryf.func38 rfl FactsBin2.fname38 ⟨rfl, trivial⟩ (Take.both (by repeat (first | exact Take.head _ _ | apply Take.tail)) (by repeat (first | exact Take.head _ _ | apply Take.tail))) rfl ?_
      rintro _ _ ⟨rfl, rfl⟩; refine LW.split2 ?_
      refine LW.neq false rfl rfl (rfl) rfl ?_
      refine LW.move rfl rfl ?_
      refine LW.on 6 rfl rfl ?_
      refine LW.move rfl rfl ?_
      refine LW.on 6 rfl rfl ?_
      refine LW.nilPtr rfl rfl ?_
      refine LW.on 6 rfl rfl ?_
      refine LW.fieldAddr _ rfl (fun _ => FactsBin2.fa92_0 _ _ _) rfl ?_
      refine LW.on 6 rfl rfl ?_
      refine LW.load rfl (by repeat (first | exact Take.head _ _ | apply Take.tail)) rfl FactsBin2.one41 rfl ?_
      refine LW.on 6 rfl rfl ?_
      refine LW.lenSlice rfl Tryf.underlying41 rfl ?_
      refine LW.on 6 rfl rfl ?_
      refine LW.gtr true rfl rfl (decide_eq_true (by omega)) rfl ?_
      refine LW.pickF rfl rfl rfl ?_
      refine LW.nil ?_
      refine NW.then_ ?_
      refine CW.cond_true rfl ?_
      refine CW.seq ?_
      refine CW.region ?_
      refine LW.assign rfl rfl ?_
      refine LW.nil ?_
      refine NW.then_ ?_
      refine CW.ret ?_
      refine NW.then_ret ?_
      refine NW.ret1 rfl rfl ⟨_, ⟨rfl, rfl⟩, ?_⟩
      exact Sub.take (p := [_]) (by repeat (first | exact Take.head _ _ | apply Take.tail)) (Sub.one (by repeat (first | exact Take.head _ _ | apply Take.tail)))
  · rw [if_pos rfl]
    refine Spec.enter ([[cr p 92 [.slice A bs.length cp, .bool true]], ch]) Tryf.func25 rfl Tryf.ntmps25 rfl (by first | rfl | simp) (fun w0 => ?_)
    refine CW.seq ?_
    refine CW.region ?_
    refine LW.assign rfl rfl ?_
    refine LW.nil ?_
    refine NW.then_ ?_
    refine CW.seq ?_
    refine CW.seq ?_
    refine CW.region ?_
    refine LW.move rfl rfl ?_
    refine LW.call (bin_Err W B p (.slice A bs.length cp) true ch) Tryf.func38 rfl FactsBin2.fname38 ⟨rfl, trivial⟩ (Take.both (by repeat (first | exact Take.head _ _ | apply Take.tail)) (by repeat (first | exact Take.head _ _ | apply Take.tail))) rfl ?_
    rintro _ _ ⟨rfl, rfl⟩; refine LW.split2 ?_
    refine LW.neq true rfl rfl (rfl) rfl ?_
    refine LW.move rfl rfl ?_
    refine LW.off 6 rfl rfl rfl rfl ?_
    refine LW.off 6 rfl rfl rfl rfl ?_
    refine LW.off 6 rfl rfl rfl rfl ?_
    refine LW.off 6 rfl rfl rfl rfl ?_
    refine LW.off 6 rfl rfl rfl rfl ?_
    refine LW.off 6 rfl rfl rfl rfl ?_
    refine LW.pickT rfl rfl rfl ?_
    refine LW.nil ?_
    refine NW.then_ ?_
    refine CW.cond_true rfl ?_
    refine CW.seq ?_
    refine CW.region ?_
    refine LW.assign rfl rfl ?_
    refine LW.nil ?_
    refine NW.then_ ?_
    refine CW.ret ?_
    refine NW.then_ret ?_
    refine NW.ret1 rfl rfl ⟨_, ⟨rfl, rfl⟩, ?_⟩
    exact Sub.take (p := [_]) (by repeat (first | exact Take.head _ _ | apply Take.tail)) (Sub.one (by repeat (first | exact Take.head _ _ | apply Take.tail)))
end
end Go.Proofs.YtemdebmfdhamgaaFmt
