/-
  FailWhere, walked.
-/
import Derived.Test.YtemdebmfdhamgaaFmtFOther
import Derived.Test.YtemdebmfdhamgaaFmtBegun
import Derived.Test.YtemdebmfdhamgaaFmtCut
namespace Go.Proofs.YtemdebmfdhamgaaFmt
open Go.RowKit Go.Extern
namespace FactsLawFWhere
theorem concrete24 : Tryf.prog.concrete 24 = true := by kernel_rfl
theorem fname10 : (Tryf.f10.name == "runtime.NumGoroutine") = false := by kernel_rfl
theorem fname11 : (Tryf.f11.name == "runtime.NumGoroutine") = false := by kernel_rfl
theorem fname5 : (Tryf.f5.name == "runtime.NumGoroutine") = false := by kernel_rfl
theorem fname6 : (Tryf.f6.name == "runtime.NumGoroutine") = false := by kernel_rfl
theorem fname7 : (Tryf.f7.name == "runtime.NumGoroutine") = false := by kernel_rfl
theorem fname8 : (Tryf.f8.name == "runtime.NumGoroutine") = false := by kernel_rfl
theorem fname9 : (Tryf.f9.name == "runtime.NumGoroutine") = false := by kernel_rfl
theorem ixs22 : (Tryf.prog.info? 9).map (·.size) = some 1 := by kernel_rfl
theorem mixed : Tryf.prog.follows .mixedOrders = true := by kernel_rfl
theorem one9 : oneB Tryf.prog 9 = true := by kernel_rfl
theorem szt9 : (Tryf.prog.info? 9).map (·.size) = some 1 := by kernel_rfl
end FactsLawFWhere
theorem Yl.loadHeld {P : Program} {n : Nat} {c : Ctx} {e : Env} {d ty : Nat} {pos : String} {af : Array Edge} {hs : List Row} {t : Nat} {x : Operand} {a : Addr} {j : Nat} {v : Value} {xs : List Value} (hx : e.ev x = some (.pointer (some (a.add j)))) (k : Src c.W c.B hs (some a) xs) (hv : xs[j]? = some v) (ht : oneB P t = true) :
    Yl P n (Held c hs) e ⟨some d, .load t x, ty, pos, af, none⟩ v := fun a1 w hf hS => by
  rcases k with rfl | ⟨a', ha, ⟨hb, hx'⟩ | ⟨b, o, t1, l, h3, h4, h5⟩⟩
  · simp at hv
  · cases ha
    have hc : w.cell? (a.add j) = some v := (World.cell?_of_block (w := c.W) (hS.1.block _ (by rw [block_of_add]; exact hb))).trans (hx' j v hv)
    simp [execOp, hf.eval hx, run_loadAt_one ht hc]
  · cases ha
    subst h3
    have hc : w.cell? ((⟨b, o, none⟩ : Addr).add j) = some v := by
      rw [Addr.add_mid, cell_of_row w b (o + j) l.toArray t1.1 t1.2 (hS.2 _ h4)]
      simpa using h5 j v hv
    simp [execOp, hf.eval hx, run_loadAt_one ht hc]
theorem min_take {α : Type} (l : List α) (k : Nat) : (if (k : Int) < (l.length : Int) then (k : Int) else (l.length : Int)) = (((l.take k).length : Nat) : Int) := by
  rw [List.length_take]
  split <;> omega
theorem textL_le (M : Nat) (c : Int) : ∀ q : List (Nat × List UInt8), (∀ x ∈ q.map (·.2), x.length ≤ M) → (textL q c).length ≤ q.length * (M + 2) + 8
  | [], _ => by simpa [textL] using errT_le c
  | a :: q, h => by
    have h1 := textL_le M c q (fun x hx => h x (by simp at hx ⊢; exact .inr hx))
    have h2 := h a.2 (by simp)
    simp only [textL, List.length_append, List.length_cons, List.length_nil, Nat.add_mul]
    omega
section
variable (W : World) (B : Nat)
set_option maxHeartbeats 2000000 in
theorem law_FailWhere (h0 : 0 < B) (hg : W.cell? ⟨0, 0, none⟩ = some (rty 26)) (A : Option Addr) (cp : Nat) (a : List (List UInt8)) (hac : a.length ≤ cp) (hA : Src W B [] A (a.map strV)) (hza : ∀ s ∈ a, s.length ≤ 140737488355328)
    (A2 : Option Addr) (cp2 : Nat) (b : List (List UInt8)) (hbc : b.length ≤ cp2) (hA2 : Src W B [] A2 (b.map strV)) (c0 : Int) :
    Spec Tryf.prog W B 3 [.slice A a.length cp, .slice A2 b.length cp2, .int .i64 c0] [] (fun v post => v = .bool true ∧ post = []) := by
  obtain ⟨c, hc, hc12, hc1, hc2⟩ := mod_pos c0 12 (by decide) (by decide)
  have hcn : ((c + 1 : Nat) : Int) ≠ 0 := by omega
  have hma := min_take a 5
  have hmb := min_take b 5
  have hsa := hA.sub 5
  have hsb := hA2.sub 5
  rw [← List.map_take] at hsa hsb
  have hla : (a.take 5).length ≤ a.length := by rw [List.length_take]; omega
  have hlb : (b.take 5).length ≤ b.length := by rw [List.length_take]; omega
  have hla5 : (a.take 5).length ≤ 5 := by rw [List.length_take]; omega
  have hlb5 : (b.take 5).length ≤ 5 := by rw [List.length_take]; omega
  have hza' : ∀ s ∈ a.take 5, s.length ≤ 140737488355328 := fun s hs => hza s (List.mem_of_mem_take hs)
  generalize a.take 5 = la at hma hsa hla hla5 hza'
  generalize b.take 5 = lb at hmb hsb hlb hlb5
  have hta : ∀ i, i < la.length → la.take (i + 1) = la.take i ++ [la.getD i []] := fun i hi => by rw [List.take_add_one]; simp [List.getD, List.getElem?_eq_getElem hi]
  have htb : ∀ i, i < lb.length → lb.take (i + 1) = lb.take i ++ [lb.getD i []] := fun i hi => by rw [List.take_add_one]; simp [List.getD, List.getElem?_eq_getElem hi]
  have hga : ∀ i, i < la.length → (la.map strV)[((i : Nat) : Int).toNat * 1]? = some (strV (la.getD i [])) := fun i hi => by simp [List.getD, List.getElem?_eq_getElem hi]
  have hgb : ∀ i, i < lb.length → (lb.map strV)[((i : Nat) : Int).toNat * 1]? = some (strV (lb.getD i [])) := fun i hi => by simp [List.getD, List.getElem?_eq_getElem hi]
  have hgr : ∀ i, i < lb.length → (lb.reverse.map strV)[((i : Nat) : Int).toNat * 1]? = some (strV (lb.getD (lb.length - 1 - i) [])) := fun i hi => by
    rw [Int.toNat_natCast, Nat.mul_one, List.getElem?_map, List.getElem?_reverse hi]
    simp [List.getD, List.getElem?_eq_getElem (show lb.length - 1 - i < lb.length by omega)]
  refine Spec.enter ([]) Tryf.func3 rfl Tryf.ntmps3 rfl (by first | rfl | simp) (fun w0 => ?_)
  refine CW.seq ?_
  refine CW.region ?_
  refine LW.assign rfl rfl ?_
  refine LW.nil ?_
  refine NW.then_ ?_
  refine CW.seq ?_
  refine CW.region ?_
  refine LW.call (law_begun W B h0 hg) Tryf.func5 rfl FactsLawFWhere.fname5 trivial (Take.none _) rfl ?_
  rintro _ _ ⟨rfl, rfl⟩
  refine LW.assign rfl rfl ?_
  refine LW.nil ?_
  refine NW.then_ ?_
  refine CW.seq ?_
  refine CW.seq ?_
  refine CW.region ?_
  refine LW.move rfl rfl ?_
  refine LW.not (false) rfl (rfl) rfl ?_
  refine LW.nil ?_
  refine NW.then_ ?_
  refine CW.cond_false rfl ?_
  refine CW.skip ?_
  refine NW.then_ ?_
  refine CW.seq ?_
  refine CW.region ?_
  refine LW.move rfl rfl ?_
  refine LW.rem (c0.tmod 12) rfl rfl (by decide) (rfl) rfl ?_
  refine LW.add (c0.tmod 12 + 12) rfl rfl (by first | rfl | exact wr64 (by omega) (by omega) (by omega)) rfl ?_
  refine LW.rem ((c : Int)) rfl rfl (by decide) (hc) rfl ?_
  refine LW.add (((c + 1 : Nat) : Int)) rfl rfl (by first | rfl | exact wr64 (by omega) (by omega) (by omega)) rfl ?_
  refine LW.assign rfl rfl ?_
  refine LW.nil ?_
  refine NW.then_ ?_
  refine CW.seq ?_
  refine CW.drawH [] FactsLawFWhere.mixed ?_
  refine AW.takes [0, 1, 2, 3, 4, 5, 6, 7, 8, 9, 10, 11] 0 (by kernel_rfl) (by kernel_rfl) rfl (by repeat (first | exact PO.body | refine PO.then_ ?_ | refine PO.block ?_ | refine PO.noGoto ?_)) (fun _ s => Held.of s (by repeat (first | exact Sub.nil _ | refine Sub.cons1 (by repeat (first | exact Take.head _ _ | apply Take.tail)) ?_))) ?_
  refine TW.take rfl (Yl.move rfl) rfl ?_
  refine TW.take rfl (Yl.move rfl) rfl ?_
  refine TW.take rfl (Yl.lenSlice rfl Tryf.underlying22) rfl ?_
  refine TW.take rfl (Yl.min2 ((la.length : Int)) rfl rfl (hma)) rfl ?_
  refine TW.take rfl (Yl.cutTo (la.length) rfl rfl Tryf.underlying22 FactsLawFWhere.szt9 (hla) (hac)) rfl ?_
  refine TW.take rfl (Yl.move rfl) rfl ?_
  refine TW.take rfl (Yl.move rfl) rfl ?_
  refine TW.take rfl (Yl.lenSlice rfl Tryf.underlying22) rfl ?_
  refine TW.take rfl (Yl.min2 ((lb.length : Int)) rfl rfl (hmb)) rfl ?_
  refine TW.take rfl (Yl.cutTo (lb.length) rfl rfl Tryf.underlying22 FactsLawFWhere.szt9 (hlb) (hbc)) rfl ?_
  refine TW.take rfl (Yl.assign rfl) rfl ?_
  refine TW.take rfl (Yl.assign rfl) rfl ?_
  refine TW.nil ?_
  refine AW.done (by kernel_rfl) ?_
  refine NW.then_ ?_
  refine CW.seq ?_
  refine CW.region ?_
  refine LW.move rfl rfl ?_
  refine LW.mkIface rfl FactsLawFWhere.concrete24 rfl ?_
  refine LW.assign rfl rfl ?_
  refine LW.nil ?_
  refine NW.then_ ?_
  refine CW.seq ?_
  refine CW.seq ?_
  refine CW.region ?_
  refine LW.move rfl rfl ?_
  refine LW.lenSlice rfl Tryf.underlying22 rfl ?_
  refine LW.move rfl rfl ?_
  refine LW.nil ?_
  refine NW.then_ ?_
  refine CW.block ?_
  refine CW.loop (fun st : Nat × List (Nat × List UInt8) => [(36, .int .i64 (st.1 : Int)), (35, .int .i64 (la.length : Int)), (9, cV (ats st.2) (eno ((c + 1 : Nat) : Int))), (8, .int .i64 ((c + 1 : Nat) : Int)), (0, .slice A la.length cp), (1, .slice A2 lb.length cp2)]) (fun st => [cR (ats st.2) (eno ((c + 1 : Nat) : Int))]) (fun st => st.1 ≤ la.length ∧ st.2.map (·.2) = (la.take st.1).reverse) (fun st => la.length - st.1) (0, []) ?st8_j ?st8_e ?st8_h ?st8_r
  case st8_j => exact ⟨Nat.zero_le _, rfl⟩
  case st8_e => repeat (first | exact Env.Le.nil _ | refine Env.Le.cons rfl ?_)
  case st8_h => repeat (first | exact Sub.heap_nil _ | exact Sub.refl _ | refine Sub.heap_cons (Take.none _) ?_ | refine Sub.heap_cons (by repeat (first | exact Take.head _ _ | apply Take.tail)) ?_)
  case st8_r =>
    rintro ⟨i, q⟩ ⟨hi, hq⟩; dsimp only at hi hq
    refine CW.seq ?_
    refine CW.region ?_
    refine LW.lss (decide ((i : Int) < (la.length : Int))) rfl rfl (rfl) rfl ?_
    refine LW.nil ?_
    refine NW.then_ ?_
    refine CW.seq ?_
    refine CW.cond rfl (fun hc37 => ?_) (fun hc37 => ?_)
    · have hin : i < la.length := by have := of_decide_eq_true hc37; omega
      obtain ⟨a1, rfl⟩ : ∃ x, A = some x := hsa.some (by rw [List.length_map]; omega)
      refine CW.skip ?_
      refine NW.then_ ?_
      refine CW.seq ?_
      refine CW.block ?_
      refine CW.seq ?_
      refine CW.region ?_
      refine LW.move rfl rfl ?_
      refine LW.assign rfl rfl ?_
      refine LW.nil ?_
      refine NW.then_ ?_
      refine CW.region ?_
      refine LW.move rfl rfl ?_
      refine LW.move rfl rfl ?_
      refine LW.indexAt rfl rfl Tryf.underlying22 FactsLawFWhere.ixs22 (by omega) (by omega) rfl ?_
      refine LW.loadRd (v := strV (la.getD i [])) rfl (hsa.rd (Take.none _)) (hga i hin) FactsLawFWhere.one9 rfl ?_
      refine LW.move rfl rfl ?_
      refine LW.call (c_At W B (la.getD i []) (ats q) ((c + 1 : Nat) : Int) (fun _ => hcn)) Tryf.func6 rfl FactsLawFWhere.fname6 ⟨rfl, rfl, trivial⟩ (by repeat (first | exact Take.head _ _ | apply Take.tail)) rfl ?_
      rintro _ _ ⟨p, rfl, rfl⟩
      refine LW.assign rfl rfl ?_
      refine LW.nil ?_
      refine NW.block ?_
      refine NW.then_ ?_
      refine CW.region ?_
      refine LW.add ((i + 1 : Int)) rfl rfl (by first | rfl | exact wr64 (by omega) (by omega) (by omega)) rfl ?_
      refine LW.move rfl rfl ?_
      refine LW.nil ?_
      refine NW.meet ((i + 1, (p, la.getD i []) :: q)) ?j1 ?e1 ?h1
      case j1 => exact ⟨⟨hin, by rw [hta i hin, List.reverse_append, List.map_cons, hq]; rfl⟩, by dsimp only; omega⟩
      case e1 => repeat (first | exact Env.Le.nil _ | refine Env.Le.cons rfl ?_)
      case h1 => repeat (first | exact Sub.heap_nil _ | exact Sub.refl _ | refine Sub.heap_cons (Take.none _) ?_ | refine Sub.heap_cons (by repeat (first | exact Take.head _ _ | apply Take.tail)) ?_)
    · have hin : i = la.length := by have := of_decide_eq_false hc37; omega
      rw [hin, List.take_length] at hq
      have hlq : q.length = la.length := by have := congrArg List.length hq; simpa using this
      have htl := textL_le 140737488355328 ((c + 1 : Nat) : Int) q (fun x hx => hza' x (by rw [hq] at hx; simpa using hx))
      have hln : (textL q ((c + 1 : Nat) : Int)).length ≤ 9223372036854775807 := by omega
      refine CW.exit ?_
      refine NW.then_exit ?_
      refine NW.then_exit ?_
      refine NW.block_exit ?_
      refine NW.then_ ?_
      refine CW.seq ?_
      refine CW.region ?_
      refine LW.move rfl rfl ?_
      refine LW.call (other_ok W B q ((c + 1 : Nat) : Int) hln) Tryf.func7 rfl FactsLawFWhere.fname7 ⟨rfl, trivial⟩ (by repeat (first | exact Take.head _ _ | apply Take.tail)) rfl ?_
      rintro _ _ ⟨z, m, rfl, rfl⟩
      refine LW.assign rfl rfl ?_
      refine LW.nil ?_
      refine NW.then_ ?_
      refine CW.seq ?_
      refine CW.seq ?_
      refine CW.region ?_
      refine LW.move rfl rfl ?_
      refine LW.lenSlice rfl Tryf.underlying22 rfl ?_
      refine LW.move rfl rfl ?_
      refine LW.nil ?_
      refine NW.then_ ?_
      refine CW.block ?_
      refine CW.loop (fun st : Nat × List (Nat × List UInt8) => [(50, .int .i64 (st.1 : Int)), (49, .int .i64 (lb.length : Int)), (9, cV (ats st.2 ++ (true, z, m) :: ats q) (eno ((c + 1 : Nat) : Int))), (8, .int .i64 ((c + 1 : Nat) : Int)), (1, .slice A2 lb.length cp2)]) (fun st => [cR (ats st.2 ++ (true, z, m) :: ats q) (eno ((c + 1 : Nat) : Int))]) (fun st => st.1 ≤ lb.length ∧ st.2.map (·.2) = (lb.take st.1).reverse) (fun st => lb.length - st.1) (0, []) ?st14_j ?st14_e ?st14_h ?st14_r
      case st14_j => exact ⟨Nat.zero_le _, rfl⟩
      case st14_e => repeat (first | exact Env.Le.nil _ | refine Env.Le.cons rfl ?_)
      case st14_h => repeat (first | exact Sub.heap_nil _ | exact Sub.refl _ | refine Sub.heap_cons (Take.none _) ?_ | refine Sub.heap_cons (by repeat (first | exact Take.head _ _ | apply Take.tail)) ?_)
      case st14_r =>
        rintro ⟨i, r⟩ ⟨hi, hr⟩; dsimp only at hi hr
        refine CW.seq ?_
        refine CW.region ?_
        refine LW.lss (decide ((i : Int) < (lb.length : Int))) rfl rfl (rfl) rfl ?_
        refine LW.nil ?_
        refine NW.then_ ?_
        refine CW.seq ?_
        refine CW.cond rfl (fun hc51 => ?_) (fun hc51 => ?_)
        · have hin2 : i < lb.length := by have := of_decide_eq_true hc51; omega
          obtain ⟨a2, rfl⟩ : ∃ x, A2 = some x := hsb.some (by rw [List.length_map]; omega)
          refine CW.skip ?_
          refine NW.then_ ?_
          refine CW.seq ?_
          refine CW.block ?_
          refine CW.seq ?_
          refine CW.region ?_
          refine LW.move rfl rfl ?_
          refine LW.assign rfl rfl ?_
          refine LW.nil ?_
          refine NW.then_ ?_
          refine CW.region ?_
          refine LW.move rfl rfl ?_
          refine LW.move rfl rfl ?_
          refine LW.indexAt rfl rfl Tryf.underlying22 FactsLawFWhere.ixs22 (by omega) (by omega) rfl ?_
          refine LW.loadRd (v := strV (lb.getD i [])) rfl (hsb.rd (Take.none _)) (hgb i hin2) FactsLawFWhere.one9 rfl ?_
          refine LW.move rfl rfl ?_
          refine LW.call (c_At W B (lb.getD i []) (ats r ++ (true, z, m) :: ats q) ((c + 1 : Nat) : Int) (fun h => by simp at h)) Tryf.func6 rfl FactsLawFWhere.fname6 ⟨rfl, rfl, trivial⟩ (by repeat (first | exact Take.head _ _ | apply Take.tail)) rfl ?_
          rintro _ _ ⟨p, rfl, rfl⟩
          refine LW.assign rfl rfl ?_
          refine LW.nil ?_
          refine NW.block ?_
          refine NW.then_ ?_
          refine CW.region ?_
          refine LW.add ((i + 1 : Int)) rfl rfl (by first | rfl | exact wr64 (by omega) (by omega) (by omega)) rfl ?_
          refine LW.move rfl rfl ?_
          refine LW.nil ?_
          refine NW.meet ((i + 1, (p, lb.getD i []) :: r)) ?j2 ?e2 ?h2
          case j2 => exact ⟨⟨hin2, by rw [htb i hin2, List.reverse_append, List.map_cons, hr]; rfl⟩, by dsimp only; omega⟩
          case e2 => repeat (first | exact Env.Le.nil _ | refine Env.Le.cons rfl ?_)
          case h2 => repeat (first | exact Sub.heap_nil _ | exact Sub.refl _ | refine Sub.heap_cons (Take.none _) ?_ | refine Sub.heap_cons (by repeat (first | exact Take.head _ _ | apply Take.tail)) ?_)
        · have hin2 : i = lb.length := by have := of_decide_eq_false hc51; omega
          rw [hin2, List.take_length] at hr
          have hlr : r.length = lb.length := by have := congrArg List.length hr; simpa using this
          have hw : whereL (ats r ++ (true, z, m) :: ats q) = lb.reverse := by rw [whereL_ats, hr]; simp [whereL]
          have hlen : (ats r ++ (true, z, m) :: ats q).length ≤ 1000000 := by simp [ats]; omega
          generalize ats r ++ (true, z, m) :: ats q = L at hw hlen
          refine CW.exit ?_
          refine NW.then_exit ?_
          refine NW.then_exit ?_
          refine NW.block_exit ?_
          refine NW.then_ ?_
          refine CW.seq ?_
          refine CW.region ?_
          refine LW.move rfl rfl ?_
          refine LW.call (c_Where W B L ((c + 1 : Nat) : Int) hlen) Tryf.func8 rfl FactsLawFWhere.fname8 ⟨rfl, trivial⟩ (by repeat (first | exact Take.head _ _ | apply Take.tail)) rfl ?_
          rintro v4 _ ⟨ch4, ho4, rfl⟩; rw [hw] at ho4; obtain ⟨A4, cp4, rfl, hA4, hc4⟩ := ho4.val; have hs4 := OwnS.src (W := W) (B := B) ho4; refine LW.split2 ?_
          refine LW.assign rfl rfl ?_
          refine LW.nil ?_
          refine NW.then_ ?_
          refine CW.seq ?_
          refine CW.seq ?_
          refine CW.region ?_
          refine LW.move rfl rfl ?_
          refine LW.lenSlice rfl Tryf.underlying22 rfl ?_
          refine LW.move rfl rfl ?_
          refine LW.lenSlice rfl Tryf.underlying22 rfl ?_
          refine LW.neq false rfl rfl (bne_eq_false_iff_eq.2 (by simp)) rfl ?_
          refine LW.move rfl rfl ?_
          refine LW.on 67 rfl rfl ?_
          refine LW.move rfl rfl ?_
          refine LW.on 67 rfl rfl ?_
          refine LW.call (c_Code W B L ((c + 1 : Nat) : Int) h0 hg) Tryf.func9 rfl FactsLawFWhere.fname9 ⟨rfl, trivial⟩ (by repeat (first | exact Take.head _ _ | apply Take.tail)) rfl ?_
          rintro _ _ ⟨rfl, rfl⟩
          refine LW.on 67 rfl rfl ?_
          refine LW.move rfl rfl ?_
          refine LW.on 67 rfl rfl ?_
          refine LW.neq false rfl rfl (bne_eq_false_iff_eq.2 rfl) rfl ?_
          refine LW.pickF rfl rfl rfl ?_
          refine LW.move rfl rfl ?_
          refine LW.on 73 rfl rfl ?_
          refine LW.move rfl rfl ?_
          refine LW.on 73 rfl rfl ?_
          refine LW.move rfl rfl ?_
          refine LW.on 73 rfl rfl ?_
          refine LW.call (c_FIs W B L ((c + 1 : Nat) : Int) ((c + 1 : Nat) : Int)) Tryf.func10 rfl FactsLawFWhere.fname10 ⟨rfl, rfl, trivial⟩ ((by repeat (first | exact Take.head _ _ | apply Take.tail))) rfl ?_
          rintro _ _ ⟨rfl, rfl⟩; rw [if_neg hcn, beq_self_eq_true]
          refine LW.on 73 rfl rfl ?_
          refine LW.not _ rfl rfl rfl ?_
          refine LW.pickF rfl rfl rfl ?_
          refine LW.move rfl rfl ?_
          refine LW.on 79 rfl rfl ?_
          refine LW.move rfl rfl ?_
          refine LW.on 79 rfl rfl ?_
          refine LW.move rfl rfl ?_
          refine LW.on 79 rfl rfl ?_
          refine LW.mkIface rfl FactsLawFWhere.concrete24 rfl ?_
          refine LW.on 79 rfl rfl ?_
          refine LW.call (c_Is W B L ((c + 1 : Nat) : Int) ((c + 1 : Nat) : Int)) Tryf.func11 rfl FactsLawFWhere.fname11 ⟨rfl, rfl, trivial⟩ ((by repeat (first | exact Take.head _ _ | apply Take.tail))) rfl ?_
          rintro _ _ ⟨rfl, rfl⟩; rw [beq_self_eq_true]
          refine LW.on 79 rfl rfl ?_
          refine LW.not _ rfl rfl rfl ?_
          refine LW.pickF rfl rfl rfl ?_
          refine LW.nil ?_
          refine NW.then_ ?_
          refine CW.cond_false rfl ?_
          refine CW.skip ?_
          refine NW.then_ ?_
          refine CW.seq ?_
          refine CW.seq ?_
          refine CW.region ?_
          refine LW.move rfl rfl ?_
          refine LW.lenSlice rfl Tryf.underlying22 rfl ?_
          refine LW.move rfl rfl ?_
          refine LW.nil ?_
          refine NW.then_ ?_
          refine CW.block ?_
          refine CW.loop (fun i : Nat => [(88, .int .i64 (i : Int)), (87, .int .i64 (lb.reverse.length : Int)), (12, .slice A4 lb.reverse.length cp4), (1, .slice A2 lb.length cp2)]) (fun _ => [ch4]) (fun i => i ≤ lb.length) (fun i => lb.length - i) 0 ?st22_j ?st22_e ?st22_h ?st22_r
          case st22_j => exact Nat.zero_le _
          case st22_e => repeat (first | exact Env.Le.nil _ | refine Env.Le.cons rfl ?_)
          case st22_h => repeat (first | exact Sub.heap_nil _ | exact Sub.refl _ | refine Sub.heap_cons (Take.none _) ?_ | refine Sub.heap_cons (by repeat (first | exact Take.head _ _ | apply Take.tail)) ?_)
          case st22_r =>
            intro i hi
            refine CW.seq ?_
            refine CW.region ?_
            refine LW.lss (decide ((i : Int) < (lb.reverse.length : Int))) rfl rfl (rfl) rfl ?_
            refine LW.nil ?_
            refine NW.then_ ?_
            refine CW.seq ?_
            refine CW.cond rfl (fun hc89 => ?_) (fun hc89 => ?_)
            · have hin3 : i < lb.length := by have := of_decide_eq_true hc89; rw [List.length_reverse] at this; omega
              obtain ⟨a2, rfl⟩ : ∃ x, A2 = some x := hsb.some (by rw [List.length_map]; omega)
              obtain ⟨a4, rfl⟩ : ∃ x, A4 = some x := hs4.some (by rw [List.length_map, List.length_reverse]; omega)
              have hlr4 : lb.reverse.length = lb.length := List.length_reverse
              refine CW.skip ?_
              refine NW.then_ ?_
              refine CW.seq ?_
              refine CW.block ?_
              refine CW.seq ?_
              refine CW.region ?_
              refine LW.move rfl rfl ?_
              refine LW.assign rfl rfl ?_
              refine LW.nil ?_
              refine NW.then_ ?_
              refine CW.seq ?_
              refine CW.drawH ch4 FactsLawFWhere.mixed ?_
              refine AW.takes [0, 1, 2, 3, 4, 5, 6, 7, 8, 9, 10, 11, 12] 0 (by kernel_rfl) (by kernel_rfl) rfl (by repeat (first | exact PO.body | refine PO.then_ ?_ | refine PO.block ?_ | refine PO.noGoto ?_)) (fun _ s => Held.of s (Sub.one (by repeat (first | exact Take.head _ _ | apply Take.tail)))) ?_
              refine TW.take rfl (Yl.move rfl) rfl ?_
              refine TW.take rfl (Yl.move rfl) rfl ?_
              refine TW.take rfl (Yl.indexAt rfl rfl Tryf.underlying22 FactsLawFWhere.ixs22 (by omega) (by omega)) rfl ?_
              refine TW.take rfl (Yl.loadHeld (v := strV (lb.getD (lb.length - 1 - i) [])) rfl hs4 (hgr i hin3) FactsLawFWhere.one9) rfl ?_
              refine TW.take rfl (Yl.move rfl) rfl ?_
              refine TW.take rfl (Yl.move rfl) rfl ?_
              refine TW.take rfl (Yl.lenSlice rfl Tryf.underlying22) rfl ?_
              refine TW.take rfl (Yl.sub ((lb.length : Int) - 1) rfl rfl (by first | rfl | exact wr64 (by omega) (by omega) (by omega))) rfl ?_
              refine TW.take rfl (Yl.move rfl) rfl ?_
              refine TW.take rfl (Yl.sub (((lb.length - 1 - i : Nat) : Int)) rfl rfl (by first | rfl | exact wr64 (by omega) (by omega) (by omega))) rfl ?_
              refine TW.take rfl (Yl.indexAt rfl rfl Tryf.underlying22 FactsLawFWhere.ixs22 (by omega) (by omega)) rfl ?_
              refine TW.take rfl (Yl.loadSrc (v := strV (lb.getD (lb.length - 1 - i) [])) rfl (hsb) (hgb (lb.length - 1 - i) (by omega)) FactsLawFWhere.one9) rfl ?_
              refine TW.take rfl (Yl.strNeq (false) rfl rfl Tryf.underlying9 (decide_eq_false (by simp))) rfl ?_
              refine TW.nil ?_
              refine AW.done (by kernel_rfl) ?_
              refine NW.then_ ?_
              refine CW.cond_false rfl ?_
              refine CW.skip ?_
              refine NW.block ?_
              refine NW.then_ ?_
              refine CW.region ?_
              refine LW.add ((i + 1 : Int)) rfl rfl (by first | rfl | exact wr64 (by omega) (by omega) (by omega)) rfl ?_
              refine LW.move rfl rfl ?_
              refine LW.nil ?_
              refine NW.meet (i + 1) ?j3 ?e3 ?h3
              case j3 => exact ⟨hin3, by omega⟩
              case e3 => repeat (first | exact Env.Le.nil _ | refine Env.Le.cons rfl ?_)
              case h3 => repeat (first | exact Sub.heap_nil _ | exact Sub.refl _ | refine Sub.heap_cons (Take.none _) ?_ | refine Sub.heap_cons (by repeat (first | exact Take.head _ _ | apply Take.tail)) ?_)
            · refine CW.exit ?_
              refine NW.then_exit ?_
              refine NW.then_exit ?_
              refine NW.block_exit ?_
              refine NW.then_ ?_
              refine CW.seq ?_
              refine CW.region ?_
              refine LW.assign rfl rfl ?_
              refine LW.nil ?_
              refine NW.then_ ?_
              refine CW.ret ?_
              refine NW.ret1 rfl rfl ⟨_, ⟨rfl, rfl⟩, ?_⟩
              exact Sub.nil _
end
end Go.Proofs.YtemdebmfdhamgaaFmt
