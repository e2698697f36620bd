/-
  BinUnlike, walked.
-/
import Derived.Test.YtmgpldgldgdenaaDoorBegun
import Derived.Test.YtmgpldgldgdenaaDoorUnlikeDef
import Derived.Test.YtmgpldgldgdenaaDoorUndef
import Derived.Test.YtmgpldgldgdenaaDoorCut
namespace Go.Proofs.YtmgpldgldgdenaaDoor
open Go.RowKit
namespace FactsLawUnlike
theorem fname16 : (Tryd.f16.name == "runtime.NumGoroutine") = false := by kernel_rfl
theorem fname24 : (Tryd.f24.name == "runtime.NumGoroutine") = false := by kernel_rfl
theorem fname29 : (Tryd.f29.name == "runtime.NumGoroutine") = false := by kernel_rfl
theorem ixs36 : (Tryd.prog.info? 2).map (·.size) = some 1 := by kernel_rfl
theorem mixed : Tryd.prog.follows .mixedOrders = true := by kernel_rfl
theorem one2 : oneB Tryd.prog 2 = true := by kernel_rfl
theorem szt2 : (Tryd.prog.info? 2).map (·.size) = some 1 := by kernel_rfl
theorem zero39 : (Tryd.prog.info? 39).bind (·.zero) = some (.agg #[.slice none 0 0]) := by kernel_rfl
end FactsLawUnlike
theorem take_min (l : List Int) (k : Nat) : (if (k : Int) < (l.length : Int) then (k : Int) else (l.length : Int)) = (((l.take k).length : Nat) : Int) := by
  rw [List.length_take]
  split <;> omega
section
variable (W : World) (B : Nat)
set_option maxHeartbeats 2000000 in
theorem law_BinUnlike (h0 : 0 < B) (hg : W.cell? ⟨0, 0, none⟩ = some (rty 80)) (A : Option Addr) (cp : Nat) (a : List Int) (hac : a.length ≤ cp) (hA : Src W B [] A (a.map i64v)) (hIa : ∀ n ∈ a, I64 n) (A2 : Option Addr) (cp2 : Nat) (b : List Int) (hbc : b.length ≤ cp2) (hA2 : Src W B [] A2 (b.map i64v)) (hIb : ∀ n ∈ b, I64 n) :
    Spec Tryd.prog W B 8 [.slice A a.length cp, .slice A2 b.length cp2] [] (fun v post => v = .bool true ∧ post = []) := by
  have hma := take_min a 8
  have hmb := take_min b 8
  have hsa := hA.sub 8
  have hsb := hA2.sub 8
  rw [← List.map_take] at hsa hsb
  have hla : (a.take 8).length ≤ a.length := by rw [List.length_take]; omega
  have hlb : (b.take 8).length ≤ b.length := by rw [List.length_take]; omega
  have hla8 : (a.take 8).length ≤ 8 := by rw [List.length_take]; omega
  have hlb8 : (b.take 8).length ≤ 8 := by rw [List.length_take]; omega
  have hIa' : ∀ n ∈ a.take 8, I64 n := fun n hn => hIa n (List.mem_of_mem_take hn)
  have hIb' : ∀ n ∈ b.take 8, I64 n := fun n hn => hIb n (List.mem_of_mem_take hn)
  generalize a.take 8 = la at hma hsa hla hla8 hIa'
  generalize b.take 8 = lb at hmb hsb hlb hlb8 hIb'
  have hdec : (decide (la = lb) != decide (encs la = encs lb)) = false := by
    by_cases h : la = lb
    · simp [h]
    · have : encs la ≠ encs lb := fun hh => h (encs_inj hIa' hIb' hh)
      simp [h, this]
  have hea := encs_len la
  have heb := encs_len lb
  refine Spec.enter ([]) Tryd.func8 rfl Tryd.ntmps8 rfl (by first | rfl | simp) (fun w0 => ?_)
  refine CW.seq ?_
  refine CW.region ?_
  refine LW.assign rfl rfl ?_
  refine LW.nil ?_
  refine NW.then_ ?_
  refine CW.seq ?_
  refine CW.region ?_
  refine LW.call (law_begun W B h0 hg) Tryd.func16 rfl FactsLawUnlike.fname16 trivial (Take.none _) rfl ?_
  rintro _ _ ⟨rfl, rfl⟩
  refine LW.assign rfl rfl ?_
  refine LW.nil ?_
  refine NW.then_ ?_
  refine CW.seq ?_
  refine CW.seq ?_
  refine CW.region ?_
  refine LW.move rfl rfl ?_
  refine LW.not (false) rfl (rfl) rfl ?_
  refine LW.nil ?_
  refine NW.then_ ?_
  refine CW.cond_false rfl ?_
  refine CW.skip ?_
  refine NW.then_ ?_
  refine CW.seq ?_
  refine CW.drawH [] FactsLawUnlike.mixed ?_
  refine AW.take 0 rfl (by kernel_rfl) (by kernel_rfl) (by kernel_rfl) (by repeat (first | exact PO.body | refine PO.then_ ?_ | refine PO.block ?_ | refine PO.noGoto ?_)) (Yl.move rfl) (fun _ s => Held.of s (by repeat (first | exact Sub.nil _ | refine Sub.cons1 (by repeat (first | exact Take.head _ _ | apply Take.tail)) ?_))) rfl ?_
  refine AW.take 1 rfl (by kernel_rfl) (by kernel_rfl) (by kernel_rfl) (by repeat (first | exact PO.body | refine PO.then_ ?_ | refine PO.block ?_ | refine PO.noGoto ?_)) (Yl.move rfl) (fun _ s => Held.of s (by repeat (first | exact Sub.nil _ | refine Sub.cons1 (by repeat (first | exact Take.head _ _ | apply Take.tail)) ?_))) rfl ?_
  refine AW.take 2 rfl (by kernel_rfl) (by kernel_rfl) (by kernel_rfl) (by repeat (first | exact PO.body | refine PO.then_ ?_ | refine PO.block ?_ | refine PO.noGoto ?_)) (Yl.lenSlice rfl Tryd.underlying36) (fun _ s => Held.of s (by repeat (first | exact Sub.nil _ | refine Sub.cons1 (by repeat (first | exact Take.head _ _ | apply Take.tail)) ?_))) rfl ?_
  refine AW.take 3 rfl (by kernel_rfl) (by kernel_rfl) (by kernel_rfl) (by repeat (first | exact PO.body | refine PO.then_ ?_ | refine PO.block ?_ | refine PO.noGoto ?_)) (Yl.min2 ((la.length : Int)) rfl rfl (hma)) (fun _ s => Held.of s (by repeat (first | exact Sub.nil _ | refine Sub.cons1 (by repeat (first | exact Take.head _ _ | apply Take.tail)) ?_))) rfl ?_
  refine AW.take 4 rfl (by kernel_rfl) (by kernel_rfl) (by kernel_rfl) (by repeat (first | exact PO.body | refine PO.then_ ?_ | refine PO.block ?_ | refine PO.noGoto ?_)) (Yl.cutTo (la.length) rfl rfl Tryd.underlying36 FactsLawUnlike.szt2 (hla) (hac)) (fun _ s => Held.of s (by repeat (first | exact Sub.nil _ | refine Sub.cons1 (by repeat (first | exact Take.head _ _ | apply Take.tail)) ?_))) rfl ?_
  refine AW.take 5 rfl (by kernel_rfl) (by kernel_rfl) (by kernel_rfl) (by repeat (first | exact PO.body | refine PO.then_ ?_ | refine PO.block ?_ | refine PO.noGoto ?_)) (Yl.move rfl) (fun _ s => Held.of s (by repeat (first | exact Sub.nil _ | refine Sub.cons1 (by repeat (first | exact Take.head _ _ | apply Take.tail)) ?_))) rfl ?_
  refine AW.take 6 rfl (by kernel_rfl) (by kernel_rfl) (by kernel_rfl) (by repeat (first | exact PO.body | refine PO.then_ ?_ | refine PO.block ?_ | refine PO.noGoto ?_)) (Yl.move rfl) (fun _ s => Held.of s (by repeat (first | exact Sub.nil _ | refine Sub.cons1 (by repeat (first | exact Take.head _ _ | apply Take.tail)) ?_))) rfl ?_
  refine AW.take 7 rfl (by kernel_rfl) (by kernel_rfl) (by kernel_rfl) (by repeat (first | exact PO.body | refine PO.then_ ?_ | refine PO.block ?_ | refine PO.noGoto ?_)) (Yl.lenSlice rfl Tryd.underlying36) (fun _ s => Held.of s (by repeat (first | exact Sub.nil _ | refine Sub.cons1 (by repeat (first | exact Take.head _ _ | apply Take.tail)) ?_))) rfl ?_
  refine AW.take 8 rfl (by kernel_rfl) (by kernel_rfl) (by kernel_rfl) (by repeat (first | exact PO.body | refine PO.then_ ?_ | refine PO.block ?_ | refine PO.noGoto ?_)) (Yl.min2 ((lb.length : Int)) rfl rfl (hmb)) (fun _ s => Held.of s (by repeat (first | exact Sub.nil _ | refine Sub.cons1 (by repeat (first | exact Take.head _ _ | apply Take.tail)) ?_))) rfl ?_
  refine AW.take 9 rfl (by kernel_rfl) (by kernel_rfl) (by kernel_rfl) (by repeat (first | exact PO.body | refine PO.then_ ?_ | refine PO.block ?_ | refine PO.noGoto ?_)) (Yl.cutTo (lb.length) rfl rfl Tryd.underlying36 FactsLawUnlike.szt2 (hlb) (hbc)) (fun _ s => Held.of s (by repeat (first | exact Sub.nil _ | refine Sub.cons1 (by repeat (first | exact Take.head _ _ | apply Take.tail)) ?_))) rfl ?_
  refine AW.take 10 rfl (by kernel_rfl) (by kernel_rfl) (by kernel_rfl) (by repeat (first | exact PO.body | refine PO.then_ ?_ | refine PO.block ?_ | refine PO.noGoto ?_)) (Yl.assign rfl) (fun _ s => Held.of s (by repeat (first | exact Sub.nil _ | refine Sub.cons1 (by repeat (first | exact Take.head _ _ | apply Take.tail)) ?_))) rfl ?_
  refine AW.take 11 rfl (by kernel_rfl) (by kernel_rfl) (by kernel_rfl) (by repeat (first | exact PO.body | refine PO.then_ ?_ | refine PO.block ?_ | refine PO.noGoto ?_)) (Yl.assign rfl) (fun _ s => Held.of s (by repeat (first | exact Sub.nil _ | refine Sub.cons1 (by repeat (first | exact Take.head _ _ | apply Take.tail)) ?_))) rfl ?_
  refine AW.done (by kernel_rfl) ?_
  refine NW.then_ ?_
  refine CW.seq ?_
  refine CW.region ?_
  refine LW.alloc FactsLawUnlike.zero39 rfl ?_
  intro ba6
  refine LW.alloc FactsLawUnlike.zero39 rfl ?_
  intro ba7
  refine LW.nil ?_
  refine NW.then_ ?_
  refine CW.seq ?_
  refine CW.region ?_
  refine LW.move rfl rfl ?_
  refine LW.call (bin_WInt W B ba6 (.slice none 0 0) [] [] OwnB.nil la hIa' [] A cp hsa (by simp only [List.length_nil]; omega)) Tryd.func24 rfl FactsLawUnlike.fname24 ⟨rfl, rfl, trivial⟩ (Take.both (Take.none _) (Take.both (by repeat (first | exact Take.head _ _ | apply Take.tail)) (Take.none _))) rfl ?_
  rintro _ _ ⟨rfl, v1, ch1, ho1, rfl⟩; rw [List.nil_append] at ho1; refine LW.split2 ?_
  refine LW.nil ?_
  refine NW.then_ ?_
  refine CW.seq ?_
  refine CW.region ?_
  refine LW.move rfl rfl ?_
  refine LW.call (bin_WInt W B ba7 (.slice none 0 0) [] [] OwnB.nil lb hIb' [] A2 cp2 hsb (by simp only [List.length_nil]; omega)) Tryd.func24 rfl FactsLawUnlike.fname24 ⟨rfl, rfl, trivial⟩ (Take.both (Take.none _) (Take.both (by repeat (first | exact Take.head _ _ | apply Take.tail)) (Take.none _))) rfl ?_
  rintro _ _ ⟨rfl, v2, ch2, ho2, rfl⟩; rw [List.nil_append] at ho2; refine LW.split2 ?_
  refine LW.nil ?_
  refine NW.then_ ?_
  refine CW.cut (fun _ : Unit => [(8, strV (encs la)), (9, strV (encs lb)), (0, .slice A la.length cp), (1, .slice A2 lb.length cp2)]) (fun _ => []) (fun _ => True) ?cut9_1 ?cut9_2
  case cut9_1 =>
    refine CW.drawH [] FactsLawUnlike.mixed ?_
    refine AW.act 0 (by kernel_rfl) rfl ?_
    refine LW.call (bin_WBytes W B ba6 v1 (encs la) ch1 ho1 (by omega)) Tryd.func29 rfl FactsLawUnlike.fname29 ⟨rfl, trivial⟩ (by repeat (first | exact Take.head _ _ | apply Take.tail)) rfl ?_
    rintro v3 _ ⟨ch3, ho3, rfl⟩; obtain ⟨A3, cp3, rfl, hA3, _⟩ := OwnS.val ho3; refine LW.split2 ?_
    refine LW.nil ?_
    refine AW.back (fun _ s => Held.of s (by repeat (first | exact Sub.nil _ | refine Sub.cons1 (by repeat (first | exact Take.head _ _ | apply Take.tail)) ?_))) ?_
    refine AW.all [1, 2] (by kernel_rfl) rfl ?_
    refine AWs.cons rfl ?_ ?_
    · refine LW.bytesStr (encs la) rfl Tryd.underlying26 Tryd.underlying5 Tryd.underlying9 ((OwnS.src (W := W) (B := B) ho3).rd (by repeat (first | exact Take.head _ _ | apply Take.tail))) (rfl) rfl ?_
      refine LW.nil ?_
      refine AW.back (fun _ s => Held.of s (by repeat (first | exact Sub.nil _ | refine Sub.cons1 (by repeat (first | exact Take.head _ _ | apply Take.tail)) ?_))) ?_
      refine AW.act 2 (by kernel_rfl) rfl ?_
      refine LW.call (bin_WBytes W B ba7 v2 (encs lb) ch2 ho2 (by omega)) Tryd.func29 rfl FactsLawUnlike.fname29 ⟨rfl, trivial⟩ (by repeat (first | exact Take.head _ _ | apply Take.tail)) rfl ?_
      rintro v4 _ ⟨ch4, ho4, rfl⟩; obtain ⟨A4, cp4, rfl, hA4, _⟩ := OwnS.val ho4; refine LW.split2 ?_
      refine LW.nil ?_
      refine AW.back (fun _ s => Held.of s (by repeat (first | exact Sub.nil _ | refine Sub.cons1 (by repeat (first | exact Take.head _ _ | apply Take.tail)) ?_))) ?_
      refine AW.take 4 rfl (by kernel_rfl) (by kernel_rfl) (by kernel_rfl) (by repeat (first | exact PO.body | refine PO.then_ ?_ | refine PO.block ?_ | refine PO.noGoto ?_)) (Yl.assign rfl) (fun _ s => Held.of s (by repeat (first | exact Sub.nil _ | refine Sub.cons1 (by repeat (first | exact Take.head _ _ | apply Take.tail)) ?_))) rfl ?_
      refine AW.act 3 (by kernel_rfl) rfl ?_
      refine LW.bytesStr (encs lb) rfl Tryd.underlying26 Tryd.underlying5 Tryd.underlying9 ((OwnS.src (W := W) (B := B) ho4).rd (by repeat (first | exact Take.head _ _ | apply Take.tail))) (rfl) rfl ?_
      refine LW.nil ?_
      refine AW.back (fun _ s => Held.of s (by repeat (first | exact Sub.nil _ | refine Sub.cons1 (by repeat (first | exact Take.head _ _ | apply Take.tail)) ?_))) ?_
      refine AW.take 5 rfl (by kernel_rfl) (by kernel_rfl) (by kernel_rfl) (by repeat (first | exact PO.body | refine PO.then_ ?_ | refine PO.block ?_ | refine PO.noGoto ?_)) (Yl.assign rfl) (fun _ s => Held.of s (by repeat (first | exact Sub.nil _ | refine Sub.cons1 (by repeat (first | exact Take.head _ _ | apply Take.tail)) ?_))) rfl ?_
      refine AW.done (by kernel_rfl) ?_
      refine NW.meet (()) ?j1 ?e1 ?h1
      case j1 => exact trivial
      case e1 => repeat (first | exact Env.Le.nil _ | refine Env.Le.cons rfl ?_)
      case h1 => repeat (first | exact Sub.heap_nil _ | exact Sub.refl _ | refine Sub.heap_cons (by repeat (first | exact Take.head _ _ | apply Take.tail)) ?_)
    refine AWs.cons rfl ?_ ?_
    · refine LW.call (bin_WBytes W B ba7 v2 (encs lb) ch2 ho2 (by omega)) Tryd.func29 rfl FactsLawUnlike.fname29 ⟨rfl, trivial⟩ (by repeat (first | exact Take.head _ _ | apply Take.tail)) rfl ?_
      rintro v4 _ ⟨ch4, ho4, rfl⟩; obtain ⟨A4, cp4, rfl, hA4, _⟩ := OwnS.val ho4; refine LW.split2 ?_
      refine LW.nil ?_
      refine AW.back (fun _ s => Held.of s (by repeat (first | exact Sub.nil _ | refine Sub.cons1 (by repeat (first | exact Take.head _ _ | apply Take.tail)) ?_))) ?_
      refine AW.all [1, 3] (by kernel_rfl) rfl ?_
      refine AWs.cons rfl ?_ ?_
      · refine LW.bytesStr (encs la) rfl Tryd.underlying26 Tryd.underlying5 Tryd.underlying9 ((OwnS.src (W := W) (B := B) ho3).rd (by repeat (first | exact Take.head _ _ | apply Take.tail))) (rfl) rfl ?_
        refine LW.nil ?_
        refine AW.back (fun _ s => Held.of s (by repeat (first | exact Sub.nil _ | refine Sub.cons1 (by repeat (first | exact Take.head _ _ | apply Take.tail)) ?_))) ?_
        refine AW.take 4 rfl (by kernel_rfl) (by kernel_rfl) (by kernel_rfl) (by repeat (first | exact PO.body | refine PO.then_ ?_ | refine PO.block ?_ | refine PO.noGoto ?_)) (Yl.assign rfl) (fun _ s => Held.of s (by repeat (first | exact Sub.nil _ | refine Sub.cons1 (by repeat (first | exact Take.head _ _ | apply Take.tail)) ?_))) rfl ?_
        refine AW.act 3 (by kernel_rfl) rfl ?_
        refine LW.bytesStr (encs lb) rfl Tryd.underlying26 Tryd.underlying5 Tryd.underlying9 ((OwnS.src (W := W) (B := B) ho4).rd (by repeat (first | exact Take.head _ _ | apply Take.tail))) (rfl) rfl ?_
        refine LW.nil ?_
        refine AW.back (fun _ s => Held.of s (by repeat (first | exact Sub.nil _ | refine Sub.cons1 (by repeat (first | exact Take.head _ _ | apply Take.tail)) ?_))) ?_
        refine AW.take 5 rfl (by kernel_rfl) (by kernel_rfl) (by kernel_rfl) (by repeat (first | exact PO.body | refine PO.then_ ?_ | refine PO.block ?_ | refine PO.noGoto ?_)) (Yl.assign rfl) (fun _ s => Held.of s (by repeat (first | exact Sub.nil _ | refine Sub.cons1 (by repeat (first | exact Take.head _ _ | apply Take.tail)) ?_))) rfl ?_
        refine AW.done (by kernel_rfl) ?_
        refine NW.meet (()) ?j2 ?e2 ?h2
        case j2 => exact trivial
        case e2 => repeat (first | exact Env.Le.nil _ | refine Env.Le.cons rfl ?_)
        case h2 => repeat (first | exact Sub.heap_nil _ | exact Sub.refl _ | refine Sub.heap_cons (by repeat (first | exact Take.head _ _ | apply Take.tail)) ?_)
      refine AWs.cons rfl ?_ ?_
      · refine LW.bytesStr (encs lb) rfl Tryd.underlying26 Tryd.underlying5 Tryd.underlying9 ((OwnS.src (W := W) (B := B) ho4).rd (by repeat (first | exact Take.head _ _ | apply Take.tail))) (rfl) rfl ?_
        refine LW.nil ?_
        refine AW.back (fun _ s => Held.of s (by repeat (first | exact Sub.nil _ | refine Sub.cons1 (by repeat (first | exact Take.head _ _ | apply Take.tail)) ?_))) ?_
        refine AW.act 1 (by kernel_rfl) rfl ?_
        refine LW.bytesStr (encs la) rfl Tryd.underlying26 Tryd.underlying5 Tryd.underlying9 ((OwnS.src (W := W) (B := B) ho3).rd (by repeat (first | exact Take.head _ _ | apply Take.tail))) (rfl) rfl ?_
        refine LW.nil ?_
        refine AW.back (fun _ s => Held.of s (by repeat (first | exact Sub.nil _ | refine Sub.cons1 (by repeat (first | exact Take.head _ _ | apply Take.tail)) ?_))) ?_
        refine AW.take 4 rfl (by kernel_rfl) (by kernel_rfl) (by kernel_rfl) (by repeat (first | exact PO.body | refine PO.then_ ?_ | refine PO.block ?_ | refine PO.noGoto ?_)) (Yl.assign rfl) (fun _ s => Held.of s (by repeat (first | exact Sub.nil _ | refine Sub.cons1 (by repeat (first | exact Take.head _ _ | apply Take.tail)) ?_))) rfl ?_
        refine AW.take 5 rfl (by kernel_rfl) (by kernel_rfl) (by kernel_rfl) (by repeat (first | exact PO.body | refine PO.then_ ?_ | refine PO.block ?_ | refine PO.noGoto ?_)) (Yl.assign rfl) (fun _ s => Held.of s (by repeat (first | exact Sub.nil _ | refine Sub.cons1 (by repeat (first | exact Take.head _ _ | apply Take.tail)) ?_))) rfl ?_
        refine AW.done (by kernel_rfl) ?_
        refine NW.meet (()) ?j3 ?e3 ?h3
        case j3 => exact trivial
        case e3 => repeat (first | exact Env.Le.nil _ | refine Env.Le.cons rfl ?_)
        case h3 => repeat (first | exact Sub.heap_nil _ | exact Sub.refl _ | refine Sub.heap_cons (by repeat (first | exact Take.head _ _ | apply Take.tail)) ?_)
      exact AWs.nil
    exact AWs.nil
  case cut9_2 =>
    rintro ⟨⟩ _
    refine CW.seq ?_
    refine CW.region ?_
    refine LW.move rfl rfl ?_
    refine LW.lenSlice rfl Tryd.underlying36 rfl ?_
    refine LW.move rfl rfl ?_
    refine LW.lenSlice rfl Tryd.underlying36 rfl ?_
    refine LW.eql ((la.length : Int) == (lb.length : Int)) rfl rfl (rfl) rfl ?_
    refine LW.assign rfl rfl ?_
    refine LW.nil ?_
    refine NW.then_ ?_
    refine CW.cut (fun _ : Unit => [(10, .bool (decide (la = lb))), (8, strV (encs la)), (9, strV (encs lb)), (0, .slice A la.length cp), (1, .slice A2 lb.length cp2)]) (fun _ => []) (fun _ => True) ?cut14_1 ?cut14_2
    case cut14_1 =>
      refine CW.seq ?_
      refine CW.region ?_
      refine LW.assign rfl rfl ?_
      refine LW.nil ?_
      refine NW.then_ ?_
      refine CW.block ?_
      refine CW.loop (fun st : Nat × Bool => [(11, .int .i64 (st.1 : Int)), (10, .bool st.2), (8, strV (encs la)), (9, strV (encs lb)), (0, .slice A la.length cp), (1, .slice A2 lb.length cp2)]) (fun _ => []) (fun st => st.1 ≤ la.length ∧ (st.2 = true → la.length = lb.length ∧ la.take st.1 = lb.take st.1) ∧ (st.2 = false → la ≠ lb)) (fun st => la.length - st.1) (0, (la.length : Int) == (lb.length : Int)) ?st11_j ?st11_e ?st11_h ?st11_r
      case st11_j => exact ⟨Nat.zero_le _, fun h => ⟨by have h' := beq_iff_eq.1 h; omega, by simp⟩, fun h hab => by rw [hab] at h; simp at h⟩
      case st11_e => repeat (first | exact Env.Le.nil _ | refine Env.Le.cons rfl ?_)
      case st11_h => repeat (first | exact Sub.heap_nil _ | exact Sub.refl _ | refine Sub.heap_cons (by repeat (first | exact Take.head _ _ | apply Take.tail)) ?_)
      case st11_r =>
        rintro ⟨i, same⟩ ⟨hi, hst, hsf⟩; dsimp only at hi hst hsf
        refine CW.seq ?_
        refine CW.seq ?_
        refine CW.region ?_
        cases same
        · refine LW.move rfl rfl ?_
          refine LW.move rfl rfl ?_
          refine LW.off 39 rfl rfl rfl rfl ?_
          refine LW.off 39 rfl rfl rfl rfl ?_
          refine LW.off 39 rfl rfl rfl rfl ?_
          refine LW.off 39 rfl rfl rfl rfl ?_
          refine LW.pickF rfl rfl rfl ?_
          refine LW.nil ?_
          refine NW.then_ ?_
          refine CW.cond_false rfl ?_
          refine CW.exit ?_
          refine NW.then_exit ?_
          refine NW.then_exit ?_
          refine NW.block_exit ?_
          refine NW.meet (()) ?j4 ?e4 ?h4
          case j4 => exact trivial
          case e4 => rw [decide_eq_false (hsf rfl)]; repeat (first | exact Env.Le.nil _ | refine Env.Le.cons rfl ?_)
          case h4 => repeat (first | exact Sub.heap_nil _ | exact Sub.refl _ | refine Sub.heap_cons (by repeat (first | exact Take.head _ _ | apply Take.tail)) ?_)
        · refine LW.move rfl rfl ?_
          refine LW.move rfl rfl ?_
          refine LW.on 39 rfl rfl ?_
          refine LW.move rfl rfl ?_
          refine LW.on 39 rfl rfl ?_
          refine LW.move rfl rfl ?_
          refine LW.on 39 rfl rfl ?_
          refine LW.lenSlice rfl Tryd.underlying36 rfl ?_
          refine LW.on 39 rfl rfl ?_
          refine LW.lss (decide ((i : Int) < (la.length : Int))) rfl rfl (rfl) rfl ?_
          refine LW.pickT rfl rfl rfl ?_
          refine LW.nil ?_
          refine NW.then_ ?_
          refine CW.cond rfl (fun hc44 => ?_) (fun hc44 => ?_)
          · have hin : i < la.length := by simpa using hc44
            obtain ⟨hll, htk⟩ := hst rfl
            obtain ⟨a1, rfl⟩ : ∃ x, A = some x := hsa.some (by rw [List.length_map]; omega)
            obtain ⟨a2, rfl⟩ : ∃ x, A2 = some x := hsb.some (by rw [List.length_map]; omega)
            have hg1 : (la.map i64v)[i]? = some (i64v (la.getD i 0)) := by simp [List.getD, List.getElem?_eq_getElem hin]
            have hg2 : (lb.map i64v)[i]? = some (i64v (lb.getD i 0)) := by simp [List.getD, List.getElem?_eq_getElem (show i < lb.length by omega)]
            have ht1 : la.take (i + 1) = la.take i ++ [la.getD i 0] := by rw [List.take_add_one]; simp [List.getD, List.getElem?_eq_getElem hin]
            have ht2 : lb.take (i + 1) = lb.take i ++ [lb.getD i 0] := by rw [List.take_add_one]; simp [List.getD, List.getElem?_eq_getElem (show i < lb.length by omega)]
            have hne : la.getD i 0 ≠ lb.getD i 0 → la ≠ lb := fun h hab => h (by rw [hab])
            generalize la.getD i 0 = x at hg1 ht1 hne
            generalize lb.getD i 0 = y at hg2 ht2 hne
            refine CW.skip ?_
            refine NW.then_ ?_
            refine CW.seq ?_
            refine CW.block ?_
            refine CW.drawH [] FactsLawUnlike.mixed ?_
            refine AW.take 0 rfl (by kernel_rfl) (by kernel_rfl) (by kernel_rfl) (by repeat (first | exact PO.body | refine PO.then_ ?_ | refine PO.block ?_ | refine PO.noGoto ?_)) (Yl.move rfl) (fun _ s => Held.of s (by repeat (first | exact Sub.nil _ | refine Sub.cons1 (by repeat (first | exact Take.head _ _ | apply Take.tail)) ?_))) rfl ?_
            refine AW.take 1 rfl (by kernel_rfl) (by kernel_rfl) (by kernel_rfl) (by repeat (first | exact PO.body | refine PO.then_ ?_ | refine PO.block ?_ | refine PO.noGoto ?_)) (Yl.move rfl) (fun _ s => Held.of s (by repeat (first | exact Sub.nil _ | refine Sub.cons1 (by repeat (first | exact Take.head _ _ | apply Take.tail)) ?_))) rfl ?_
            refine AW.take 2 rfl (by kernel_rfl) (by kernel_rfl) (by kernel_rfl) (by repeat (first | exact PO.body | refine PO.then_ ?_ | refine PO.block ?_ | refine PO.noGoto ?_)) (Yl.indexAt rfl rfl Tryd.underlying36 FactsLawUnlike.ixs36 (by omega) (by omega)) (fun _ s => Held.of s (by repeat (first | exact Sub.nil _ | refine Sub.cons1 (by repeat (first | exact Take.head _ _ | apply Take.tail)) ?_))) rfl ?_
            refine AW.take 3 rfl (by kernel_rfl) (by kernel_rfl) (by kernel_rfl) (by repeat (first | exact PO.body | refine PO.then_ ?_ | refine PO.block ?_ | refine PO.noGoto ?_)) (Yl.loadSrc (v := .int .i64 x) rfl (hsa) (by simpa [i64v] using hg1) FactsLawUnlike.one2) (fun _ s => Held.of s (by repeat (first | exact Sub.nil _ | refine Sub.cons1 (by repeat (first | exact Take.head _ _ | apply Take.tail)) ?_))) rfl ?_
            refine AW.take 4 rfl (by kernel_rfl) (by kernel_rfl) (by kernel_rfl) (by repeat (first | exact PO.body | refine PO.then_ ?_ | refine PO.block ?_ | refine PO.noGoto ?_)) (Yl.move rfl) (fun _ s => Held.of s (by repeat (first | exact Sub.nil _ | refine Sub.cons1 (by repeat (first | exact Take.head _ _ | apply Take.tail)) ?_))) rfl ?_
            refine AW.take 5 rfl (by kernel_rfl) (by kernel_rfl) (by kernel_rfl) (by repeat (first | exact PO.body | refine PO.then_ ?_ | refine PO.block ?_ | refine PO.noGoto ?_)) (Yl.move rfl) (fun _ s => Held.of s (by repeat (first | exact Sub.nil _ | refine Sub.cons1 (by repeat (first | exact Take.head _ _ | apply Take.tail)) ?_))) rfl ?_
            refine AW.take 6 rfl (by kernel_rfl) (by kernel_rfl) (by kernel_rfl) (by repeat (first | exact PO.body | refine PO.then_ ?_ | refine PO.block ?_ | refine PO.noGoto ?_)) (Yl.indexAt rfl rfl Tryd.underlying36 FactsLawUnlike.ixs36 (by omega) (by omega)) (fun _ s => Held.of s (by repeat (first | exact Sub.nil _ | refine Sub.cons1 (by repeat (first | exact Take.head _ _ | apply Take.tail)) ?_))) rfl ?_
            refine AW.take 7 rfl (by kernel_rfl) (by kernel_rfl) (by kernel_rfl) (by repeat (first | exact PO.body | refine PO.then_ ?_ | refine PO.block ?_ | refine PO.noGoto ?_)) (Yl.loadSrc (v := .int .i64 y) rfl (hsb) (by simpa [i64v] using hg2) FactsLawUnlike.one2) (fun _ s => Held.of s (by repeat (first | exact Sub.nil _ | refine Sub.cons1 (by repeat (first | exact Take.head _ _ | apply Take.tail)) ?_))) rfl ?_
            refine AW.take 8 rfl (by kernel_rfl) (by kernel_rfl) (by kernel_rfl) (by repeat (first | exact PO.body | refine PO.then_ ?_ | refine PO.block ?_ | refine PO.noGoto ?_)) (Yl.eql (x == y) rfl rfl (rfl)) (fun _ s => Held.of s (by repeat (first | exact Sub.nil _ | refine Sub.cons1 (by repeat (first | exact Take.head _ _ | apply Take.tail)) ?_))) rfl ?_
            refine AW.take 9 rfl (by kernel_rfl) (by kernel_rfl) (by kernel_rfl) (by repeat (first | exact PO.body | refine PO.then_ ?_ | refine PO.block ?_ | refine PO.noGoto ?_)) (Yl.assign rfl) (fun _ s => Held.of s (by repeat (first | exact Sub.nil _ | refine Sub.cons1 (by repeat (first | exact Take.head _ _ | apply Take.tail)) ?_))) rfl ?_
            refine AW.done (by kernel_rfl) ?_
            refine NW.block ?_
            refine NW.then_ ?_
            refine CW.region ?_
            refine LW.move rfl rfl ?_
            refine LW.add ((i + 1 : Int)) rfl rfl (by first | rfl | exact wr64 (by omega) (by omega) (by omega)) rfl ?_
            refine LW.assign rfl rfl ?_
            refine LW.nil ?_
            refine NW.meet ((i + 1, x == y)) ?j5 ?e5 ?h5
            case j5 => exact ⟨⟨hin, fun h => ⟨hll, by rw [ht1, ht2, htk, show x = y from by simpa using h]⟩, fun h => hne (by simpa using h)⟩, by dsimp only; omega⟩
            case e5 => repeat (first | exact Env.Le.nil _ | refine Env.Le.cons rfl ?_)
            case h5 => repeat (first | exact Sub.heap_nil _ | exact Sub.refl _ | refine Sub.heap_cons (by repeat (first | exact Take.head _ _ | apply Take.tail)) ?_)
          · have hin : i = la.length := by have := of_decide_eq_false hc44; omega
            have hab : la = lb := by
              obtain ⟨hll, htk⟩ := hst rfl
              rw [hin] at htk
              rw [List.take_length, hll, List.take_length] at htk
              exact htk
            refine CW.exit ?_
            refine NW.then_exit ?_
            refine NW.then_exit ?_
            refine NW.block_exit ?_
            refine NW.meet (()) ?j6 ?e6 ?h6
            case j6 => exact trivial
            case e6 => rw [decide_eq_true hab]; repeat (first | exact Env.Le.nil _ | refine Env.Le.cons rfl ?_)
            case h6 => repeat (first | exact Sub.heap_nil _ | exact Sub.refl _ | refine Sub.heap_cons (by repeat (first | exact Take.head _ _ | apply Take.tail)) ?_)
    case cut14_2 =>
      rintro ⟨⟩ _
      refine CW.seq ?_
      refine CW.seq ?_
      refine CW.region ?_
      refine LW.move rfl rfl ?_
      refine LW.move rfl rfl ?_
      refine LW.move rfl rfl ?_
      refine LW.strEql (decide (encs la = encs lb)) rfl rfl Tryd.underlying9 (rfl) rfl ?_
      refine LW.boolNeq (false) rfl rfl Tryd.underlying4 (hdec) rfl ?_
      refine LW.nil ?_
      refine NW.then_ ?_
      refine CW.cond_false rfl ?_
      refine CW.skip ?_
      refine NW.then_ ?_
      refine CW.seq ?_
      refine CW.region ?_
      refine LW.move rfl rfl ?_
      refine LW.lenSlice rfl Tryd.underlying36 rfl ?_
      refine LW.move rfl rfl ?_
      refine LW.lenSlice rfl Tryd.underlying36 rfl ?_
      by_cases hll : la.length = lb.length
      · refine LW.neq false rfl rfl (bne_eq_false_iff_eq.2 (by omega)) rfl ?_
        refine LW.move rfl rfl ?_
        by_cases hab : la = lb
        · refine LW.on 66 rfl rfl ?_
          refine LW.move rfl rfl ?_
          rw [decide_eq_true hab]
          refine LW.pickF rfl rfl rfl ?_
          refine LW.move rfl rfl ?_
          refine LW.off 69 rfl rfl rfl rfl ?_
          refine LW.off 69 rfl rfl rfl rfl ?_
          refine LW.off 69 rfl rfl rfl rfl ?_
          refine LW.off 69 rfl rfl rfl rfl ?_
          by_cases hlx : (encs lb).length < (encs la).length
          · refine LW.off 69 rfl rfl rfl rfl ?_
            refine LW.pickT rfl rfl rfl ?_
            refine LW.move rfl rfl ?_
            refine LW.off 76 rfl rfl rfl rfl ?_
            refine LW.off 76 rfl rfl rfl rfl ?_
            refine LW.off 76 rfl rfl rfl rfl ?_
            refine LW.off 76 rfl rfl rfl rfl ?_
            refine LW.off 76 rfl rfl rfl rfl ?_
            refine LW.off 76 rfl rfl rfl rfl ?_
            refine LW.pickT rfl rfl rfl ?_
            refine LW.assign rfl rfl ?_
            refine LW.nil ?_
            refine NW.then_ ?_
            refine CW.ret ?_
            refine NW.ret1 rfl rfl ⟨_, ⟨rfl, rfl⟩, ?_⟩
            exact Sub.nil _
          · refine LW.off 69 rfl rfl rfl rfl ?_
            refine LW.pickT rfl rfl rfl ?_
            refine LW.move rfl rfl ?_
            refine LW.off 76 rfl rfl rfl rfl ?_
            refine LW.off 76 rfl rfl rfl rfl ?_
            refine LW.off 76 rfl rfl rfl rfl ?_
            refine LW.off 76 rfl rfl rfl rfl ?_
            refine LW.off 76 rfl rfl rfl rfl ?_
            refine LW.off 76 rfl rfl rfl rfl ?_
            refine LW.pickT rfl rfl rfl ?_
            refine LW.assign rfl rfl ?_
            refine LW.nil ?_
            refine NW.then_ ?_
            refine CW.ret ?_
            refine NW.ret1 rfl rfl ⟨_, ⟨rfl, rfl⟩, ?_⟩
            exact Sub.nil _
        · refine LW.on 66 rfl rfl ?_
          refine LW.move rfl rfl ?_
          rw [decide_eq_false hab]
          refine LW.pickF rfl rfl rfl ?_
          refine LW.move rfl rfl ?_
          refine LW.on 69 rfl rfl ?_
          refine LW.move rfl rfl ?_
          refine LW.on 69 rfl rfl ?_
          refine LW.lenString rfl Tryd.underlying9 rfl ?_
          refine LW.on 69 rfl rfl ?_
          refine LW.move rfl rfl ?_
          refine LW.on 69 rfl rfl ?_
          refine LW.lenString rfl Tryd.underlying9 rfl ?_
          by_cases hlx : (encs lb).length < (encs la).length
          · refine LW.on 69 rfl rfl ?_
            refine LW.gtr true rfl rfl (decide_eq_true (by simp only [ByteArray.size, List.size_toArray]; omega)) rfl ?_
            refine LW.pickF rfl rfl rfl ?_
            refine LW.move rfl rfl ?_
            refine LW.off 76 rfl rfl rfl rfl ?_
            refine LW.off 76 rfl rfl rfl rfl ?_
            refine LW.off 76 rfl rfl rfl rfl ?_
            refine LW.off 76 rfl rfl rfl rfl ?_
            refine LW.off 76 rfl rfl rfl rfl ?_
            refine LW.off 76 rfl rfl rfl rfl ?_
            refine LW.pickT rfl rfl rfl ?_
            refine LW.assign rfl rfl ?_
            refine LW.nil ?_
            refine NW.then_ ?_
            refine CW.ret ?_
            refine NW.ret1 rfl rfl ⟨_, ⟨rfl, rfl⟩, ?_⟩
            exact Sub.nil _
          · refine LW.on 69 rfl rfl ?_
            refine LW.gtr false rfl rfl (decide_eq_false (by simp only [ByteArray.size, List.size_toArray]; omega)) rfl ?_
            refine LW.pickF rfl rfl rfl ?_
            refine LW.move rfl rfl ?_
            refine LW.on 76 rfl rfl ?_
            refine LW.move rfl rfl ?_
            refine LW.on 76 rfl rfl ?_
            refine LW.move rfl rfl ?_
            refine LW.on 76 rfl rfl ?_
            refine LW.lenString rfl Tryd.underlying9 rfl ?_
            refine LW.on 76 rfl rfl ?_
            refine LW.strTake ((encs la).length) rfl rfl Tryd.underlying9 (by omega) rfl ?_
            refine LW.on 76 rfl rfl ?_
            refine LW.move rfl rfl ?_
            refine LW.on 76 rfl rfl ?_
            refine LW.strNeq (true) rfl rfl Tryd.underlying9 (decide_eq_true (fun hh => hab (encs_pre ((encs lb).drop (encs la).length) hIa' hIb' hll (by rw [show encs la = (encs lb).take (encs la).length from (by simpa using hh.symm), List.length_take, Nat.min_eq_left (by omega), List.take_append_drop])))) rfl ?_
            refine LW.pickF rfl rfl rfl ?_
            refine LW.assign rfl rfl ?_
            refine LW.nil ?_
            refine NW.then_ ?_
            refine CW.ret ?_
            refine NW.ret1 rfl rfl ⟨_, ⟨rfl, rfl⟩, ?_⟩
            exact Sub.nil _
      · refine LW.neq true rfl rfl (bne_iff_ne.2 (by omega)) rfl ?_
        refine LW.move rfl rfl ?_
        by_cases hab : la = lb
        · refine LW.off 66 rfl rfl rfl rfl ?_
          refine LW.pickT rfl rfl rfl ?_
          refine LW.move rfl rfl ?_
          refine LW.off 69 rfl rfl rfl rfl ?_
          refine LW.off 69 rfl rfl rfl rfl ?_
          refine LW.off 69 rfl rfl rfl rfl ?_
          refine LW.off 69 rfl rfl rfl rfl ?_
          by_cases hlx : (encs lb).length < (encs la).length
          · refine LW.off 69 rfl rfl rfl rfl ?_
            refine LW.pickT rfl rfl rfl ?_
            refine LW.move rfl rfl ?_
            refine LW.off 76 rfl rfl rfl rfl ?_
            refine LW.off 76 rfl rfl rfl rfl ?_
            refine LW.off 76 rfl rfl rfl rfl ?_
            refine LW.off 76 rfl rfl rfl rfl ?_
            refine LW.off 76 rfl rfl rfl rfl ?_
            refine LW.off 76 rfl rfl rfl rfl ?_
            refine LW.pickT rfl rfl rfl ?_
            refine LW.assign rfl rfl ?_
            refine LW.nil ?_
            refine NW.then_ ?_
            refine CW.ret ?_
            refine NW.ret1 rfl rfl ⟨_, ⟨rfl, rfl⟩, ?_⟩
            exact Sub.nil _
          · refine LW.off 69 rfl rfl rfl rfl ?_
            refine LW.pickT rfl rfl rfl ?_
            refine LW.move rfl rfl ?_
            refine LW.off 76 rfl rfl rfl rfl ?_
            refine LW.off 76 rfl rfl rfl rfl ?_
            refine LW.off 76 rfl rfl rfl rfl ?_
            refine LW.off 76 rfl rfl rfl rfl ?_
            refine LW.off 76 rfl rfl rfl rfl ?_
            refine LW.off 76 rfl rfl rfl rfl ?_
            refine LW.pickT rfl rfl rfl ?_
            refine LW.assign rfl rfl ?_
            refine LW.nil ?_
            refine NW.then_ ?_
            refine CW.ret ?_
            refine NW.ret1 rfl rfl ⟨_, ⟨rfl, rfl⟩, ?_⟩
            exact Sub.nil _
        · refine LW.off 66 rfl rfl rfl rfl ?_
          refine LW.pickT rfl rfl rfl ?_
          refine LW.move rfl rfl ?_
          refine LW.off 69 rfl rfl rfl rfl ?_
          refine LW.off 69 rfl rfl rfl rfl ?_
          refine LW.off 69 rfl rfl rfl rfl ?_
          refine LW.off 69 rfl rfl rfl rfl ?_
          by_cases hlx : (encs lb).length < (encs la).length
          · refine LW.off 69 rfl rfl rfl rfl ?_
            refine LW.pickT rfl rfl rfl ?_
            refine LW.move rfl rfl ?_
            refine LW.off 76 rfl rfl rfl rfl ?_
            refine LW.off 76 rfl rfl rfl rfl ?_
            refine LW.off 76 rfl rfl rfl rfl ?_
            refine LW.off 76 rfl rfl rfl rfl ?_
            refine LW.off 76 rfl rfl rfl rfl ?_
            refine LW.off 76 rfl rfl rfl rfl ?_
            refine LW.pickT rfl rfl rfl ?_
            refine LW.assign rfl rfl ?_
            refine LW.nil ?_
            refine NW.then_ ?_
            refine CW.ret ?_
            refine NW.ret1 rfl rfl ⟨_, ⟨rfl, rfl⟩, ?_⟩
            exact Sub.nil _
          · refine LW.off 69 rfl rfl rfl rfl ?_
            refine LW.pickT rfl rfl rfl ?_
            refine LW.move rfl rfl ?_
            refine LW.off 76 rfl rfl rfl rfl ?_
            refine LW.off 76 rfl rfl rfl rfl ?_
            refine LW.off 76 rfl rfl rfl rfl ?_
            refine LW.off 76 rfl rfl rfl rfl ?_
            refine LW.off 76 rfl rfl rfl rfl ?_
            refine LW.off 76 rfl rfl rfl rfl ?_
            refine LW.pickT rfl rfl rfl ?_
            refine LW.assign rfl rfl ?_
            refine LW.nil ?_
            refine NW.then_ ?_
            refine CW.ret ?_
            refine NW.ret1 rfl rfl ⟨_, ⟨rfl, rfl⟩, ?_⟩
            exact Sub.nil _
end
end Go.Proofs.YtmgpldgldgdenaaDoor
