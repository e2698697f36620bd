/-
  law1.Text; BinText, walked.
-/
import Derived.Test.YtmgpldgldgdenaaDoorBegun
import Derived.Test.YtmgpldgldgdenaaDoorBinLaw
import Derived.Test.YtmgpldgldgdenaaDoorOps3
namespace Go.Proofs.YtmgpldgldgdenaaDoor
open Go.RowKit
namespace FactsLawText
theorem fname16 : (Tryd.f16.name == "runtime.NumGoroutine") = false := by kernel_rfl
theorem fname24 : (Tryd.f24.name == "runtime.NumGoroutine") = false := by kernel_rfl
theorem fname26 : (Tryd.f26.name == "runtime.NumGoroutine") = false := by kernel_rfl
theorem fname27 : (Tryd.f27.name == "runtime.NumGoroutine") = false := by kernel_rfl
theorem fname29 : (Tryd.f29.name == "runtime.NumGoroutine") = false := by kernel_rfl
theorem fname30 : (Tryd.f30.name == "runtime.NumGoroutine") = false := by kernel_rfl
theorem fname31 : (Tryd.f31.name == "runtime.NumGoroutine") = false := by kernel_rfl
theorem fname32 : (Tryd.f32.name == "runtime.NumGoroutine") = false := by kernel_rfl
theorem fname33 : (Tryd.f33.name == "runtime.NumGoroutine") = false := by kernel_rfl
theorem fname34 : (Tryd.f34.name == "runtime.NumGoroutine") = false := by kernel_rfl
theorem info2 : (Tryd.prog.info? 2).map (fun i => (i.zero, i.size, i.bytes)) = some (some (.int .i64 0), 1, 8) := by kernel_rfl
theorem zero39 : (Tryd.prog.info? 39).bind (·.zero) = some (.agg #[.slice none 0 0]) := by kernel_rfl
end FactsLawText
section
variable (W : World) (B : Nat)
theorem law_Text (s : List UInt8) (k : Nat) : Spec Tryd.prog W B 27 [strV s, .int .i64 (k : Int)] [] (fun v post => v = strV (s.take k) ∧ post = []) := by
  have hmin : (if (k : Int) < (s.length : Int) then (k : Int) else (s.length : Int)) = ((min k s.length : Nat) : Int) := by split <;> omega
  have htk : s.take (min k s.length) = s.take k := by rw [List.take_eq_take_iff]; omega
  refine Spec.enter ([]) Tryd.func27 rfl Tryd.ntmps27 rfl (by first | rfl | simp) (fun w0 => ?_)
  refine CW.seq ?_
  refine CW.region ?_
  refine LW.assign rfl rfl ?_
  refine LW.nil ?_
  refine NW.then_ ?_
  refine CW.seq ?_
  refine CW.region ?_
  refine LW.move rfl rfl ?_
  refine LW.move rfl rfl ?_
  refine LW.lenString rfl Tryd.underlying9 rfl ?_
  refine LW.move rfl rfl ?_
  refine LW.min2 (((min k s.length : Nat) : Int)) rfl rfl (hmin) rfl ?_
  refine LW.strTake (min k s.length) rfl rfl Tryd.underlying9 (Nat.min_le_right _ _) rfl ?_
  refine LW.assign rfl rfl ?_
  refine LW.nil ?_
  refine NW.then_ ?_
  refine CW.ret ?_
  refine NW.ret1 rfl rfl ⟨_, ⟨by rw [htk], rfl⟩, ?_⟩
  exact Sub.nil _

theorem bin_RText_ok (p : Nat) (v : Value) (bs : List UInt8) (ch : List Row) (hv : RdS W B v bs ch) (hlen : bs.length ≤ 1000000000) (k m : Nat) (hg : getZ bs = some ((k : Int), m)) (most : Int) (h1 : (k : Int) ≤ most) (h2 : k ≤ (bs.drop m).length) :
    Spec Tryd.prog W B 33 [.pointer (some ⟨p, 0, none⟩), .int .i64 most] ([cr p 96 [v, .bool false]] ++ ch)
      (fun r post => r = strV ((bs.drop m).take k) ∧ ∃ v', RdS W B v' ((bs.drop m).drop k) ch ∧ post = [cr p 96 [v', .bool false]] ++ ch) :=
  (bin_RText W B p v bs ch hv hlen (k : Int) m hg most).mono fun r post h => by
    rcases h with ⟨h, _⟩ | ⟨_, hr, v', hs, hp⟩
    · exact absurd ⟨by omega, h1, by omega⟩ h
    · exact ⟨by simpa using hr, v', by simpa using hs, hp⟩
theorem bin_RText_no (p : Nat) (v : Value) (bs : List UInt8) (ch : List Row) (hv : RdS W B v bs ch) (hlen : bs.length ≤ 1000000000) (n : Int) (m : Nat) (hg : getZ bs = some (n, m)) (most : Int) (h1 : ¬ (0 ≤ n ∧ n ≤ most ∧ n ≤ ((bs.drop m).length : Int))) :
    Spec Tryd.prog W B 33 [.pointer (some ⟨p, 0, none⟩), .int .i64 most] ([cr p 96 [v, .bool false]] ++ ch)
      (fun r post => r = strV [] ∧ ∃ v', post = [cr p 96 [v', .bool true]] ++ ch) :=
  (bin_RText W B p v bs ch hv hlen n m hg most).mono fun r post h => by
    rcases h with ⟨_, hr, v', hp⟩ | ⟨h, _⟩
    · exact ⟨hr, v', hp⟩
    · exact absurd h h1
theorem bin_EndBad (p : Nat) (v : Value) (ch : List Row) :
    Spec Tryd.prog W B 34 [.pointer (some ⟨p, 0, none⟩)] ([cr p 96 [v, .bool true]] ++ ch)
      (fun r post => r = .int .i64 1 ∧ post = [cr p 96 [v, .bool true]] ++ ch) := by
  refine Spec.enter ([[cr p 96 [v, .bool true]] ++ ch]) Tryd.func34 rfl Tryd.ntmps34 rfl (by first | rfl | simp) (fun w0 => ?_)
  refine CW.seq ?_
  refine CW.region ?_
  refine LW.assign rfl rfl ?_
  refine LW.nil ?_
  refine NW.then_ ?_
  refine CW.seq ?_
  refine CW.seq ?_
  refine CW.region ?_
  refine LW.move rfl rfl ?_
  refine LW.call (bin_Err W B p v true ch) Tryd.func32 rfl FactsLawText.fname32 ⟨rfl, trivial⟩ (by repeat (first | exact Take.head _ _ | apply Take.tail)) rfl ?_
  rintro _ _ ⟨rfl, rfl⟩
  refine LW.neq true rfl rfl (rfl) rfl ?_
  refine LW.move rfl rfl ?_
  refine LW.off 6 rfl rfl rfl rfl ?_
  refine LW.off 6 rfl rfl rfl rfl ?_
  refine LW.off 6 rfl rfl rfl rfl ?_
  refine LW.off 6 rfl rfl rfl rfl ?_
  refine LW.off 6 rfl rfl rfl rfl ?_
  refine LW.off 6 rfl rfl rfl rfl ?_
  refine LW.pickT rfl rfl rfl ?_
  refine LW.nil ?_
  refine NW.then_ ?_
  refine CW.cond_true rfl ?_
  refine CW.seq ?_
  refine CW.region ?_
  refine LW.assign rfl rfl ?_
  refine LW.nil ?_
  refine NW.then_ ?_
  refine CW.ret ?_
  refine NW.then_ret ?_
  refine NW.ret1 rfl rfl ⟨_, ⟨rfl, rfl⟩, ?_⟩
  exact Sub.one (by repeat (first | exact Take.head _ _ | apply Take.tail))

theorem law_BinText (h0 : 0 < B) (hg : W.cell? ⟨0, 0, none⟩ = some (rty 80)) (s0 : List UInt8) (most more : Int) (hI : I64 more) :
    Spec Tryd.prog W B 7 [strV s0, .int .i64 most, .int .i64 more] [] (fun v post => v = .bool true ∧ post = []) := by
  obtain ⟨m, hm, hm120, hm1, hm2⟩ := mod_pos most 120 (by decide) (by decide)
  generalize hs : s0.take 100 = s
  have hs100 : s.length ≤ 100 := by rw [← hs, List.length_take]; omega
  have hIs : I64 (s.length : Int) := ⟨by omega, by omega⟩
  have hbs : [] ++ encZ (s.length : Int) ++ s ++ encs [more] = encZ (s.length : Int) ++ (s ++ encZ more) := by simp [encs]
  generalize hbb : encZ (s.length : Int) ++ (s ++ encZ more) = bs at hbs
  have hg1 : getZ bs = some ((s.length : Int), sizeZ (s.length : Int) + 1) := by rw [← hbb]; exact getZ_enc hIs _
  have hdr : bs.drop (sizeZ (s.length : Int) + 1) = s ++ encZ more := by rw [← hbb, ← encZ_len, List.drop_left]
  have hz1 := sizeZ_le (s.length : Int)
  have hz2 := sizeZ_le more
  have hel : (encZ (s.length : Int)).length ≤ 9 := by rw [encZ_len]; omega
  have hblen : bs.length ≤ 1000 := by rw [← hbb, List.length_append, List.length_append, encZ_len, encZ_len]; omega
  have hgm : getZ (encZ more) = some (more, sizeZ more + 1) := by have := getZ_enc hI []; rwa [List.append_nil] at this
  refine Spec.enter ([]) Tryd.func7 rfl Tryd.ntmps7 rfl (by first | rfl | simp) (fun w0 => ?_)
  refine CW.seq ?_
  refine CW.region ?_
  refine LW.assign rfl rfl ?_
  refine LW.nil ?_
  refine NW.then_ ?_
  refine CW.seq ?_
  refine CW.region ?_
  refine LW.call (law_begun W B h0 hg) Tryd.func16 rfl FactsLawText.fname16 trivial (Take.none _) rfl ?_
  rintro _ _ ⟨rfl, rfl⟩
  refine LW.assign rfl rfl ?_
  refine LW.nil ?_
  refine NW.then_ ?_
  refine CW.seq ?_
  refine CW.seq ?_
  refine CW.region ?_
  refine LW.move rfl rfl ?_
  refine LW.not (false) rfl (rfl) rfl ?_
  refine LW.nil ?_
  refine NW.then_ ?_
  refine CW.cond_false rfl ?_
  refine CW.skip ?_
  refine NW.then_ ?_
  refine CW.seq ?_
  refine CW.region ?_
  refine LW.move rfl rfl ?_
  refine LW.call (law_Text W B s0 100) Tryd.func27 rfl FactsLawText.fname27 ⟨rfl, rfl, trivial⟩ (Take.none _) rfl ?_
  rintro _ _ ⟨rfl, rfl⟩; rw [hs]
  refine LW.assign rfl rfl ?_
  refine LW.nil ?_
  refine NW.then_ ?_
  refine CW.seq ?_
  refine CW.region ?_
  refine LW.move rfl rfl ?_
  refine LW.rem (most.tmod 120) rfl rfl (by decide) (rfl) rfl ?_
  refine LW.add (most.tmod 120 + 120) rfl rfl (by first | rfl | exact wr64 (by omega) (by omega) (by omega)) rfl ?_
  refine LW.rem ((m : Int)) rfl rfl (by decide) (hm) rfl ?_
  refine LW.assign rfl rfl ?_
  refine LW.nil ?_
  refine NW.then_ ?_
  refine CW.seq ?_
  refine CW.region ?_
  refine LW.alloc FactsLawText.zero39 rfl ?_
  intro ba8
  refine LW.nil ?_
  refine NW.then_ ?_
  refine CW.seq ?_
  refine CW.region ?_
  refine LW.move rfl rfl ?_
  refine LW.call (bin_WText W B ba8 (.slice none 0 0) [] [] OwnB.nil s (by simp; omega)) Tryd.func26 rfl FactsLawText.fname26 ⟨rfl, rfl, trivial⟩ (Take.both (by repeat (first | exact Take.head _ _ | apply Take.tail)) (Take.none _)) rfl ?_
  rintro _ _ ⟨rfl, v1, ch1, ho1, rfl⟩
  refine LW.nil ?_
  refine NW.then_ ?_
  refine CW.seq ?_
  refine CW.region ?_
  refine LW.move rfl rfl ?_
  refine LW.buildSlice (vs := [_]) ⟨rfl, trivial⟩ rfl (by intro v hv; simp at hv; subst hv; rfl) Tryd.underlying36 FactsLawText.info2 rfl (by decide) (by decide) rfl ?_
  intro bs23
  refine LW.call (bin_WInt W B ba8 v1 ([] ++ encZ (s.length : Int) ++ s) ch1 ho1 [more] (by intro n hn; simp at hn; subst hn; exact hI) [cr bs23 2 [.int .i64 more]] (some ⟨bs23, 0, none⟩) 1 (Src.row (fun j v hj => by rw [Nat.zero_add]; exact hj)) (by simp only [List.length_append, List.length_nil, List.length_singleton]; omega)) Tryd.func24 rfl FactsLawText.fname24 ⟨rfl, rfl, trivial⟩ (Take.both (by repeat (first | exact Take.head _ _ | apply Take.tail)) (by repeat (first | exact Take.head _ _ | apply Take.tail))) rfl ?_
  rintro _ _ ⟨rfl, v2, ch2, ho2, rfl⟩; rw [hbs] at ho2; refine LW.split2 ?_
  refine LW.nil ?_
  refine NW.then_ ?_
  refine CW.seq ?_
  refine CW.region ?_
  refine LW.call (bin_WBytes W B ba8 v2 bs ch2 ho2 (by omega)) Tryd.func29 rfl FactsLawText.fname29 ⟨rfl, trivial⟩ (by repeat (first | exact Take.head _ _ | apply Take.tail)) rfl ?_
  rintro v3 _ ⟨ch3, ho3, rfl⟩; obtain ⟨A3, cp3, rfl, hA3, _⟩ := OwnS.val ho3; refine LW.split2 ?_
  refine LW.call (bin_NewReader W B ch3 A3 cp3 bs (OwnS.src ho3) hA3 (by omega)) Tryd.func30 rfl FactsLawText.fname30 ⟨rfl, trivial⟩ (by repeat (first | exact Take.head _ _ | apply Take.tail)) rfl ?_
  rintro _ _ ⟨rp, rv, rch, rfl, hrd, rfl⟩; refine LW.split2 ?_
  refine LW.assign rfl rfl ?_
  refine LW.nil ?_
  refine NW.then_ ?_
  refine CW.seq ?_
  refine CW.region ?_
  refine LW.move rfl rfl ?_
  refine LW.move rfl rfl ?_
  by_cases hml : m < s.length
  · refine LW.call (bin_RText_no W B rp rv bs rch hrd (by omega) (s.length : Int) _ hg1 (m : Int) (by omega)) Tryd.func33 rfl FactsLawText.fname33 ⟨rfl, rfl, trivial⟩ (by repeat (first | exact Take.head _ _ | apply Take.tail)) rfl ?_
    rintro _ _ ⟨rfl, rv1, rfl⟩
    refine LW.assign rfl rfl ?_
    refine LW.nil ?_
    refine NW.then_ ?_
    refine CW.seq ?_
    refine CW.seq ?_
    refine CW.region ?_
    refine LW.move rfl rfl ?_
    refine LW.lenString rfl Tryd.underlying9 rfl ?_
    refine LW.move rfl rfl ?_
    refine LW.gtr true rfl rfl (decide_eq_true (by simp only [ByteArray.size, List.size_toArray]; omega)) rfl ?_
    refine LW.nil ?_
    refine NW.then_ ?_
    refine CW.cond_true rfl ?_
    refine CW.seq ?_
    refine CW.region ?_
    refine LW.move rfl rfl ?_
    refine LW.strEql (true) rfl rfl Tryd.underlying9 (decide_eq_true rfl) rfl ?_
    refine LW.move rfl rfl ?_
    refine LW.on 36 rfl rfl ?_
    refine LW.move rfl rfl ?_
    refine LW.on 36 rfl rfl ?_
    refine LW.call (bin_Err W B rp rv1 true rch) Tryd.func32 rfl FactsLawText.fname32 ⟨rfl, trivial⟩ (by repeat (first | exact Take.head _ _ | apply Take.tail)) rfl ?_
    rintro _ _ ⟨rfl, rfl⟩
    refine LW.on 36 rfl rfl ?_
    refine LW.eql true rfl rfl (rfl) rfl ?_
    refine LW.pickT rfl rfl rfl ?_
    refine LW.move rfl rfl ?_
    refine LW.on 41 rfl rfl ?_
    refine LW.move rfl rfl ?_
    refine LW.on 41 rfl rfl ?_
    refine LW.call (bin_RInt_bad W B rp rv1 rch) Tryd.func31 rfl FactsLawText.fname31 ⟨rfl, trivial⟩ (by repeat (first | exact Take.head _ _ | apply Take.tail)) rfl ?_
    rintro _ _ ⟨rfl, rfl⟩
    refine LW.on 41 rfl rfl ?_
    refine LW.eql true rfl rfl (rfl) rfl ?_
    refine LW.pickT rfl rfl rfl ?_
    refine LW.move rfl rfl ?_
    refine LW.on 46 rfl rfl ?_
    refine LW.move rfl rfl ?_
    refine LW.on 46 rfl rfl ?_
    refine LW.call (bin_EndBad W B rp rv1 rch) Tryd.func34 rfl FactsLawText.fname34 ⟨rfl, trivial⟩ (by repeat (first | exact Take.head _ _ | apply Take.tail)) rfl ?_
    rintro _ _ ⟨rfl, rfl⟩
    refine LW.on 46 rfl rfl ?_
    refine LW.eql true rfl rfl (rfl) rfl ?_
    refine LW.pickT rfl rfl rfl ?_
    refine LW.assign rfl rfl ?_
    refine LW.nil ?_
    refine NW.then_ ?_
    refine CW.ret ?_
    refine NW.then_ret ?_
    refine NW.ret1 rfl rfl ⟨_, ⟨rfl, rfl⟩, ?_⟩
    exact Sub.nil _
  · refine LW.call (bin_RText_ok W B rp rv bs rch hrd (by omega) s.length _ hg1 (m : Int) (by omega) (by rw [hdr, List.length_append]; omega)) Tryd.func33 rfl FactsLawText.fname33 ⟨rfl, rfl, trivial⟩ (by repeat (first | exact Take.head _ _ | apply Take.tail)) rfl ?_
    rintro _ _ ⟨rfl, rv1, hrd1, rfl⟩; rw [hdr, List.take_left]; rw [hdr, List.drop_left] at hrd1
    refine LW.assign rfl rfl ?_
    refine LW.nil ?_
    refine NW.then_ ?_
    refine CW.seq ?_
    refine CW.seq ?_
    refine CW.region ?_
    refine LW.move rfl rfl ?_
    refine LW.lenString rfl Tryd.underlying9 rfl ?_
    refine LW.move rfl rfl ?_
    refine LW.gtr false rfl rfl (decide_eq_false (by simp only [ByteArray.size, List.size_toArray]; omega)) rfl ?_
    refine LW.nil ?_
    refine NW.then_ ?_
    refine CW.cond_false rfl ?_
    refine CW.skip ?_
    refine NW.then_ ?_
    refine CW.seq ?_
    refine CW.region ?_
    refine LW.move rfl rfl ?_
    refine LW.move rfl rfl ?_
    refine LW.strEql (true) rfl rfl Tryd.underlying9 (decide_eq_true rfl) rfl ?_
    refine LW.move rfl rfl ?_
    refine LW.on 54 rfl rfl ?_
    refine LW.move rfl rfl ?_
    refine LW.on 54 rfl rfl ?_
    refine LW.call (bin_RInt_some W B rp rv1 (encZ more) rch hrd1 (by rw [encZ_len]; omega) more _ hgm) Tryd.func31 rfl FactsLawText.fname31 ⟨rfl, trivial⟩ (by repeat (first | exact Take.head _ _ | apply Take.tail)) rfl ?_
    rintro _ _ ⟨rfl, rv2, hrd2, rfl⟩; rw [← encZ_len, List.drop_length] at hrd2
    refine LW.on 54 rfl rfl ?_
    refine LW.move rfl rfl ?_
    refine LW.on 54 rfl rfl ?_
    refine LW.eql true rfl rfl (by simp) rfl ?_
    refine LW.pickT rfl rfl rfl ?_
    refine LW.move rfl rfl ?_
    refine LW.on 60 rfl rfl ?_
    refine LW.move rfl rfl ?_
    refine LW.on 60 rfl rfl ?_
    refine LW.call (bin_End W B rp rv2 false [] rch hrd2) Tryd.func34 rfl FactsLawText.fname34 ⟨rfl, trivial⟩ (by repeat (first | exact Take.head _ _ | apply Take.tail)) rfl ?_
    rintro _ _ ⟨rfl, rfl⟩
    refine LW.on 60 rfl rfl ?_
    refine LW.eql true rfl rfl (rfl) rfl ?_
    refine LW.pickT rfl rfl rfl ?_
    refine LW.assign rfl rfl ?_
    refine LW.nil ?_
    refine NW.then_ ?_
    refine CW.ret ?_
    refine NW.ret1 rfl rfl ⟨_, ⟨rfl, rfl⟩, ?_⟩
    exact Sub.nil _
end
end Go.Proofs.YtmgpldgldgdenaaDoor
