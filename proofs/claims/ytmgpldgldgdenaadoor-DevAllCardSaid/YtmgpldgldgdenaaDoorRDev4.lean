/-
  THE DOCUMENT's DEVICE: a crash: its contract.
-/
import Derived.Test.YtmgpldgldgdenaaDoorRDev3
namespace Go.Proofs.YtmgpldgldgdenaaDoor
open Go.RowKit
namespace FactsRDev4
theorem fa71_0 (b o : Nat) (w : World) : (Instr.fieldAt 71 (.pointer (some ⟨b, o, none⟩)) 0).run Tryd.prog w = .ok (.pointer (some ⟨b, o, none⟩)) w := by kernel_rfl
theorem fa71_1 (b o : Nat) (w : World) : (Instr.fieldAt 71 (.pointer (some ⟨b, o, none⟩)) 1).run Tryd.prog w = .ok (.pointer (some ⟨b, o + 1, none⟩)) w := by kernel_rfl
theorem fa71_2 (b o : Nat) (w : World) : (Instr.fieldAt 71 (.pointer (some ⟨b, o, none⟩)) 2).run Tryd.prog w = .ok (.pointer (some ⟨b, o + 2, none⟩)) w := by kernel_rfl
theorem fname37 : (Tryd.f37.name == "runtime.NumGoroutine") = false := by kernel_rfl
theorem info5 : (Tryd.prog.info? 5).map (fun i => (i.zero, i.size, i.bytes)) = some (some (.int .u8 0), 1, 1) := by kernel_rfl
theorem ixs22 : (Tryd.prog.info? 4).map (·.size) = some 1 := by kernel_rfl
theorem ixs51 : (Tryd.prog.info? 26).map (·.size) = some 1 := by kernel_rfl
theorem mixed : Tryd.prog.follows .mixedOrders = true := by kernel_rfl
theorem one22 : oneB Tryd.prog 22 = true := by kernel_rfl
theorem one26 : oneB Tryd.prog 26 = true := by kernel_rfl
theorem one4 : oneB Tryd.prog 4 = true := by kernel_rfl
theorem one51 : oneB Tryd.prog 51 = true := by kernel_rfl
theorem sz26 : (Tryd.prog.info? 26).map (·.size) = some 1 := by kernel_rfl
end FactsRDev4
theorem looseTo_split (s : DevS) (n i : Nat) (hi : i < n) (hl : s.loose.getD i false = true) : (looseTo s n)[(looseTo s i).length]? = some i := by
  have h1 : ∀ m, i < m → ∃ r, looseTo s m = looseTo s i ++ i :: r := by
    intro m
    induction m with
    | zero => intro h; omega
    | succ m ih =>
      intro h
      rw [looseTo_succ]
      rcases Nat.lt_or_ge i m with h' | h'
      · obtain ⟨r, hr⟩ := ih h'
        exact ⟨r ++ (if s.loose.getD m false then [m] else []), by rw [hr]; simp⟩
      · obtain rfl : i = m := by omega
        exact ⟨[], by rw [hl]; simp⟩
  obtain ⟨r, hr⟩ := h1 n hi
  rw [hr, List.getElem?_append_right (Nat.le_refl _), Nat.sub_self]
  rfl
theorem crash_at {n : Nat} {s : DevS} (hs : s.Ok n) (keep : List Bool) (i : Nat) (hi : i < n) :
    (s.crash n keep).now.getD i [] = if s.loose.getD i false = true ∧ keep.getD (looseTo s i).length false = false then s.was.getD i [] else s.now.getD i [] := by
  rw [show (s.crash n keep).now = s.kept (looseTo s n) keep (looseTo s n).length from rfl]
  split
  · rename_i h
    have hg := looseTo_split s n i hi h.1
    exact kept_was s _ keep n i hs.now.1 (fun x hx => looseTo_lt hx) _ (Nat.le_refl _) ⟨_, (List.getElem?_eq_some_iff.1 hg).1, hg, h.2⟩
  · rename_i h
    refine kept_now s _ keep i _ (Nat.le_refl _) (fun k hk hki => ?_)
    have hm := (loose_mem s n i).1 (List.mem_of_getElem? hki)
    have hg := looseTo_split s n i hi hm.2
    have hkk : k = (looseTo s i).length := (List.getElem?_inj hk (loose_nodup s n)).1 (by rw [hki, hg])
    rw [hkk]
    cases hb : keep.getD (looseTo s i).length false
    · exact absurd ⟨hm.2, hb⟩ h
    · rfl
section
variable (W : World) (B : Nat)
set_option maxHeartbeats 1000000 in
theorem rdev_Crash (r : RD) (n : Nat) (s : DevS) (hr : r.Ok W B n s) (src : List Row) (A : Option Addr) (cp : Nat) (keep : List Bool) (hsrc : Src W B src A (keep.map .bool)) :
    Spec Tryd.prog W B 42 [.pointer (some ⟨r.q, 0, none⟩), .slice A keep.length cp] (src ++ r.rows n s)
      (fun v post => ∃ r' : RD, v = .pointer (some ⟨r'.q, 0, none⟩) ∧ r'.Ok W B n (s.crash n keep) ∧ post = src ++ (r.rows n s ++ r'.rows n (s.crash n keep))) := by
  have hn0 := hr.ok.n0
  have hn1 := hr.ok.n1
  have hll := hr.ok.loose
  have hcr := crash_at hr.ok keep
  have hok := hr.ok.crash keep
  have hlt : ∀ k, k < n → (s.loose.map Value.bool)[k]? = some (.bool (s.loose.getD k false)) := fun k hk => by
    have : k < s.loose.length := by rw [hll]; exact hk
    simp [List.getD, List.getElem?_eq_getElem this]
  rcases hr.ownN with ⟨_, h, _⟩ | ⟨bN, capN, slN, hvN, hlN, hcN, hslN, hchN⟩
  · omega
  rcases hr.ownS with ⟨_, h, _⟩ | ⟨bS, capS, slS, hvS, hlS, hcS, hslS, hchS⟩
  · omega
  refine Spec.enter (src :: [[cr r.q 71 (rdHead r n s)], r.chN, r.chS, [cr r.bl 4 (s.loose.map .bool)], r.ar]) Tryd.func42 rfl Tryd.ntmps42 rfl (by first | rfl | simp [RD.rows, rdHead]) (fun w0 => ?_)
  refine CW.seq ?_
  refine CW.region ?_
  refine LW.assign rfl rfl ?_
  refine LW.nil ?_
  refine NW.then_ ?_
  refine CW.seq ?_
  refine CW.region ?_
  refine LW.move rfl rfl ?_
  refine LW.nilPtr rfl rfl ?_
  refine LW.fieldAddr _ rfl (fun _ => FactsRDev4.fa71_0 _ _ _) rfl ?_
  refine LW.load (v := .slice (some ⟨bN, 0, none⟩) n capN) rfl (by repeat (first | exact Take.head _ _ | apply Take.tail)) ((by rw [← hvN]; rfl)) FactsRDev4.one51 rfl ?_
  refine LW.lenSlice rfl Tryd.underlying51 rfl ?_
  refine LW.call (rdev_New W B n hn0 hn1) Tryd.func37 rfl FactsRDev4.fname37 ⟨rfl, trivial⟩ (Take.none _) rfl ?_
  rintro _ _ ⟨r2, rfl, hr2, rfl⟩; refine LW.openR ?_; rw [hchN, hchS]
  refine LW.assign rfl rfl ?_
  refine LW.nil ?_
  refine NW.then_ ?_
  refine CW.seq ?_
  rcases hr2.ownN with ⟨_, h, _⟩ | ⟨bN2, capN2, slN2, hvN2, hlN2, hcN2, hslN2, hchN2⟩
  · omega
  rcases hr2.ownS with ⟨_, h, _⟩ | ⟨bS2, capS2, slS2, hvS2, hlS2, hcS2, hslS2, hchS2⟩
  · omega
  rw [hchN2, hchS2]
  have hz1 := Secs.rep n
  have hX := hok.now
  have hsN2 := hr2.secN
  have hsS2 := hr2.secS
  have hz2 : (DevS.zero n).now = List.replicate n zSec := rfl
  have hz3 : (DevS.zero n).was = List.replicate n zSec := rfl
  rw [hz2] at hsN2
  rw [hz3] at hsS2
  refine CW.region ?_
  refine LW.assign rfl rfl ?_
  refine LW.nil ?_
  refine NW.then_ ?_
  refine CW.seq ?_
  refine CW.seq ?_
  refine CW.region ?_
  refine LW.move rfl rfl ?_
  refine LW.nilPtr rfl rfl ?_
  refine LW.fieldAddr _ rfl (fun _ => FactsRDev4.fa71_0 _ _ _) rfl ?_
  refine LW.load (v := .slice (some ⟨bN, 0, none⟩) n capN) rfl (by repeat (first | exact Take.head _ _ | apply Take.tail)) ((by rw [← hvN]; rfl)) FactsRDev4.one51 rfl ?_
  refine LW.lenSlice rfl Tryd.underlying51 rfl ?_
  refine LW.move rfl rfl ?_
  refine LW.nil ?_
  refine NW.then_ ?_
  refine CW.block ?_
  refine CW.loop (fun st : Nat × List Value × List Value × List Row => [(20, .int .i64 (st.1 : Int)), (19, .int .i64 (n : Int)), (6, .int .i64 ((looseTo s st.1).length : Int)), (5, .pointer (some ⟨r2.q, 0, none⟩)), (1, .slice A keep.length cp), (0, .pointer (some ⟨r.q, 0, none⟩))]) (fun st => [[cr r.q 71 (rdHead r n s)], [cr bN 26 (r.nv ++ slN)], [cr bS 26 (r.sv ++ slS)], [cr r.bl 4 (s.loose.map .bool)], r.ar, src, [cr r2.q 71 (rdHead r2 n (DevS.zero n))], [cr bN2 26 (st.2.1 ++ slN2)], [cr bS2 26 (st.2.2.1 ++ slS2)], [cr r2.bl 4 ((DevS.zero n).loose.map .bool)], st.2.2.2]) (fun st => st.1 ≤ n ∧ SecsAt W B st.2.2.2 st.2.1 (mixL (s.crash n keep).now (List.replicate n zSec) st.1) n ∧ SecsAt W B st.2.2.2 st.2.2.1 (mixL (s.crash n keep).now (List.replicate n zSec) st.1) n) (fun st => n - st.1) (0, r2.nv, r2.sv, r2.ar) ?st4_j ?st4_e ?st4_h ?st4_r
  case st4_j => exact ⟨Nat.zero_le _, by rw [mixL_zero]; exact hsN2, by rw [mixL_zero]; exact hsS2⟩
  case st4_e => repeat (first | exact Env.Le.nil _ | refine Env.Le.cons rfl ?_)
  case st4_h => repeat (first | exact Sub.heap_nil _ | exact Sub.refl _ | refine Sub.heap_cons (by repeat (first | exact Take.head _ _ | apply Take.tail)) ?_)
  case st4_r =>
    rintro ⟨i, nv, sv, ar⟩ ⟨hi, hnv, hsv⟩; dsimp only at hi hnv hsv
    try dsimp only
    refine CW.seq ?_
    refine CW.region ?_
    refine LW.lss _ rfl rfl rfl rfl ?_
    refine LW.nil ?_
    refine NW.then_ ?_
    refine CW.seq ?_
    refine CW.cond rfl (fun hc21 => ?_) (fun hc21 => ?_)
    · replace hc21 := of_decide_eq_true hc21
      try dsimp only at hc21
      have hin : i < n := by omega
      have hci := hcr i hin
      have hXl : (s.crash n keep).now.length = n := hX.1
      have hgX : (mixL (s.crash n keep).now (List.replicate n zSec) i).set i ((s.crash n keep).now.getD i []) = mixL (s.crash n keep).now (List.replicate n zSec) (i + 1) := mixL_set _ _ _ _ (by rw [List.length_replicate, hXl]) (by omega)
      have hmx : (mixL (s.crash n keep).now (List.replicate n zSec) i).length = n := by rw [mixL_len _ _ _ (by rw [List.length_replicate, hXl]) (by omega), hXl]
      have hll1 := looseTo_len s i
      refine CW.skip ?_
      refine NW.then_ ?_
      refine CW.seq ?_
      refine CW.block ?_
      refine CW.seq ?_
      refine CW.region ?_
      refine LW.move rfl rfl ?_
      refine LW.assign rfl rfl ?_
      refine LW.nil ?_
      refine NW.then_ ?_
      refine CW.seq ?_
      refine CW.region ?_
      refine LW.move rfl rfl ?_
      refine LW.nilPtr rfl rfl ?_
      refine LW.fieldAddr _ rfl (fun _ => FactsRDev4.fa71_0 _ _ _) rfl ?_
      refine LW.load (v := .slice (some ⟨bN, 0, none⟩) n capN) rfl (by repeat (first | exact Take.head _ _ | apply Take.tail)) ((by rw [← hvN]; rfl)) FactsRDev4.one51 rfl ?_
      refine LW.move rfl rfl ?_
      refine LW.indexAddr (i) rfl rfl Tryd.underlying51 FactsRDev4.ixs51 (by omega) (by omega) (by simp) rfl ?_
      refine LW.load (v := r.nv.getD i undef) rfl (by repeat (first | exact Take.head _ _ | apply Take.tail)) ((by rw [List.getElem?_append_left (by omega)]; exact hr.secN.get hin)) FactsRDev4.one26 rfl ?_
      refine LW.assign rfl rfl ?_
      refine LW.nil ?_
      refine NW.then_ ?_
      refine CW.cut (fun v : Value => [(8, v), (7, .int .i64 (i : Int)), (20, .int .i64 (i : Int)), (19, .int .i64 (n : Int)), (6, .int .i64 ((looseTo s (i + 1)).length : Int)), (5, .pointer (some ⟨r2.q, 0, none⟩)), (1, .slice A keep.length cp), (0, .pointer (some ⟨r.q, 0, none⟩))]) (fun _ => [[cr r.q 71 (rdHead r n s)], [cr bN 26 (r.nv ++ slN)], [cr bS 26 (r.sv ++ slS)], [cr r.bl 4 (s.loose.map .bool)], r.ar, src, [cr r2.q 71 (rdHead r2 n (DevS.zero n))], [cr bN2 26 (nv ++ slN2)], [cr bS2 26 (sv ++ slS2)], [cr r2.bl 4 ((DevS.zero n).loose.map .bool)], ar]) (fun v => SecAt W B r.ar v ((s.crash n keep).now.getD i [])) ?cut11_1 ?cut11_2
      case cut11_1 =>
        refine CW.seq ?_
        refine CW.region ?_
        refine LW.move rfl rfl ?_
        refine LW.nilPtr rfl rfl ?_
        refine LW.fieldAddr _ rfl (fun _ => FactsRDev4.fa71_2 _ _ _) rfl ?_
        refine LW.load (v := .slice (some ⟨r.bl, 0, none⟩) n n) rfl (by repeat (first | exact Take.head _ _ | apply Take.tail)) (rfl) FactsRDev4.one22 rfl ?_
        refine LW.move rfl rfl ?_
        refine LW.indexAddr (i) rfl rfl Tryd.underlying22 FactsRDev4.ixs22 (by omega) (by omega) (by simp) rfl ?_
        refine LW.load (v := .bool (s.loose.getD i false)) rfl (by repeat (first | exact Take.head _ _ | apply Take.tail)) (hlt i hin) FactsRDev4.one4 rfl ?_
        refine LW.nil ?_
        refine NW.then_ ?_
        refine CW.cond rfl (fun hc36 => ?_) (fun hc36 => ?_)
        · have hsu : looseTo s (i + 1) = looseTo s i ++ [i] := by rw [looseTo_succ, hc36]; rfl
          have hsul : (looseTo s (i + 1)).length = (looseTo s i).length + 1 := by rw [hsu, List.length_append]; rfl
          refine CW.seq ?_
          refine CW.seq ?_
          refine CW.region ?_
          refine LW.move rfl rfl ?_
          refine LW.move rfl rfl ?_
          refine LW.lenSlice rfl Tryd.underlying22 rfl ?_
          by_cases hkl : keep.length ≤ (looseTo s i).length
          · refine LW.geq true rfl rfl (decide_eq_true (by omega)) rfl ?_
            refine LW.move rfl rfl ?_
            refine LW.off 41 rfl rfl rfl rfl ?_
            refine LW.off 41 rfl rfl rfl rfl ?_
            refine LW.off 41 rfl rfl rfl rfl ?_
            refine LW.off 41 rfl rfl rfl rfl ?_
            refine LW.off 41 rfl rfl rfl rfl ?_
            refine LW.pickT rfl rfl rfl ?_
            refine LW.nil ?_
            refine NW.then_ ?_
            refine CW.cond_true rfl ?_
            have hkf : keep.getD (looseTo s i).length false = false := by simp [List.getD, List.getElem?_eq_none hkl]
            rw [hc36, hkf, if_pos ⟨rfl, rfl⟩] at hci
            refine CW.region ?_
            refine LW.move rfl rfl ?_
            refine LW.nilPtr rfl rfl ?_
            refine LW.fieldAddr _ rfl (fun _ => FactsRDev4.fa71_1 _ _ _) rfl ?_
            refine LW.load (v := .slice (some ⟨bS, 0, none⟩) n capS) rfl (by repeat (first | exact Take.head _ _ | apply Take.tail)) ((by rw [← hvS]; rfl)) FactsRDev4.one51 rfl ?_
            refine LW.move rfl rfl ?_
            refine LW.indexAddr (i) rfl rfl Tryd.underlying51 FactsRDev4.ixs51 (by omega) (by omega) (by simp) rfl ?_
            refine LW.load (v := r.sv.getD i undef) rfl (by repeat (first | exact Take.head _ _ | apply Take.tail)) ((by rw [List.getElem?_append_left (by omega)]; exact hr.secS.get hin)) FactsRDev4.one26 rfl ?_
            refine LW.assign rfl rfl ?_
            refine LW.nil ?_
            refine NW.then_ ?_
            refine CW.region ?_
            refine LW.move rfl rfl ?_
            refine LW.add64 rfl rfl (by omega) (by omega) rfl ?_
            refine LW.assign rfl rfl ?_
            refine LW.nil ?_
            refine NW.meet (r.sv.getD i undef) ?j1 ?e1 ?h1
            case j1 => rw [hci]; exact hr.secS.2 i hin
            case e1 => rw [hsul]; repeat (first | exact Env.Le.nil _ | refine Env.Le.cons rfl ?_)
            case h1 => repeat (first | exact Sub.heap_nil _ | exact Sub.refl _ | refine Sub.heap_cons (by repeat (first | exact Take.head _ _ | apply Take.tail)) ?_)
          · refine LW.geq false rfl rfl (decide_eq_false (by omega)) rfl ?_
            refine LW.move rfl rfl ?_
            refine LW.on 41 rfl rfl ?_
            refine LW.move rfl rfl ?_
            refine LW.on 41 rfl rfl ?_
            refine LW.move rfl rfl ?_
            refine LW.on 41 rfl rfl ?_
            obtain ⟨ak, rfl⟩ : ∃ a, A = some a := hsrc.some (by rw [List.length_map]; omega)
            refine LW.indexAt rfl rfl Tryd.underlying22 FactsRDev4.ixs22 (by omega) (by omega) rfl ?_
            refine LW.on 41 rfl rfl ?_
            refine LW.loadRd (v := .bool (keep.getD (looseTo s i).length false)) rfl (hsrc.rd (by repeat (first | exact Take.head _ _ | apply Take.tail))) (by simp [List.getD, List.getElem?_eq_getElem (Nat.not_le.1 hkl)]) FactsRDev4.one4 rfl ?_
            refine LW.on 41 rfl rfl ?_
            refine LW.not (!(keep.getD (looseTo s i).length false)) rfl (rfl) rfl ?_
            refine LW.pickF rfl rfl rfl ?_
            refine LW.nil ?_
            refine NW.then_ ?_
            refine CW.cond rfl (fun hc47 => ?_) (fun hc47 => ?_)
            · have hkf : keep.getD (looseTo s i).length false = false := by simpa using hc47
              rw [hc36, hkf, if_pos ⟨rfl, rfl⟩] at hci
              refine CW.region ?_
              refine LW.move rfl rfl ?_
              refine LW.nilPtr rfl rfl ?_
              refine LW.fieldAddr _ rfl (fun _ => FactsRDev4.fa71_1 _ _ _) rfl ?_
              refine LW.load (v := .slice (some ⟨bS, 0, none⟩) n capS) rfl (by repeat (first | exact Take.head _ _ | apply Take.tail)) ((by rw [← hvS]; rfl)) FactsRDev4.one51 rfl ?_
              refine LW.move rfl rfl ?_
              refine LW.indexAddr (i) rfl rfl Tryd.underlying51 FactsRDev4.ixs51 (by omega) (by omega) (by simp) rfl ?_
              refine LW.load (v := r.sv.getD i undef) rfl (by repeat (first | exact Take.head _ _ | apply Take.tail)) ((by rw [List.getElem?_append_left (by omega)]; exact hr.secS.get hin)) FactsRDev4.one26 rfl ?_
              refine LW.assign rfl rfl ?_
              refine LW.nil ?_
              refine NW.then_ ?_
              refine CW.region ?_
              refine LW.move rfl rfl ?_
              refine LW.add64 rfl rfl (by omega) (by omega) rfl ?_
              refine LW.assign rfl rfl ?_
              refine LW.nil ?_
              refine NW.meet (r.sv.getD i undef) ?j2 ?e2 ?h2
              case j2 => rw [hci]; exact hr.secS.2 i hin
              case e2 => rw [hsul]; repeat (first | exact Env.Le.nil _ | refine Env.Le.cons rfl ?_)
              case h2 => repeat (first | exact Sub.heap_nil _ | exact Sub.refl _ | refine Sub.heap_cons (by repeat (first | exact Take.head _ _ | apply Take.tail)) ?_)
            · have hkt : keep.getD (looseTo s i).length false = true := by simpa using hc47
              rw [hkt, if_neg (by simp)] at hci
              refine CW.skip ?_
              refine NW.then_ ?_
              refine CW.region ?_
              refine LW.move rfl rfl ?_
              refine LW.add64 rfl rfl (by omega) (by omega) rfl ?_
              refine LW.assign rfl rfl ?_
              refine LW.nil ?_
              refine NW.meet (r.nv.getD i undef) ?j3 ?e3 ?h3
              case j3 => rw [hci]; exact hr.secN.2 i hin
              case e3 => rw [hsul]; repeat (first | exact Env.Le.nil _ | refine Env.Le.cons rfl ?_)
              case h3 => repeat (first | exact Sub.heap_nil _ | exact Sub.refl _ | refine Sub.heap_cons (by repeat (first | exact Take.head _ _ | apply Take.tail)) ?_)
        · have hsu : looseTo s (i + 1) = looseTo s i := by rw [looseTo_succ, hc36]; simp
          rw [hc36, if_neg (by simp)] at hci
          refine CW.skip ?_
          refine NW.meet (r.nv.getD i undef) ?j4 ?e4 ?h4
          case j4 => rw [hci]; exact hr.secN.2 i hin
          case e4 => rw [hsu]; repeat (first | exact Env.Le.nil _ | refine Env.Le.cons rfl ?_)
          case h4 => repeat (first | exact Sub.heap_nil _ | exact Sub.refl _ | refine Sub.heap_cons (by repeat (first | exact Take.head _ _ | apply Take.tail)) ?_)
      case cut11_2 =>
        intro v hv; obtain ⟨av, cpv, rfl, hva⟩ := hv.some; have hxl : ((s.crash n keep).now.getD i []).length = 64 := hX.get (hX.getD hin)
        try dsimp only
        refine CW.drawH [cr r2.q 71 (rdHead r2 n (DevS.zero n))] FactsRDev4.mixed ?_
        refine AW.takes [0, 1, 2, 3, 4, 5, 6, 7, 8, 9, 10, 12] 6 (by kernel_rfl) (by kernel_rfl) rfl (by repeat (first | exact PO.body | refine PO.then_ ?_ | refine PO.block ?_ | refine PO.noGoto ?_)) (fun _ s => Held.of s (by repeat (first | exact Sub.nil _ | refine Sub.cons1 (by repeat (first | exact Take.head _ _ | apply Take.tail)) ?_))) ?_
        refine TW.take rfl (Yl.move rfl) rfl ?_
        refine TW.take rfl (Yl.nilPtr rfl) rfl ?_
        refine TW.take rfl (Yl.fieldAddr _ rfl (fun _ => FactsRDev4.fa71_0 _ _ _)) rfl ?_
        refine TW.take rfl (Yl.load (v := .slice (some ⟨bN2, 0, none⟩) n capN2) rfl (by repeat (first | exact List.Mem.head _ | refine List.Mem.tail _ ?_)) ((by rw [← hvN2]; rfl)) FactsRDev4.one51) rfl ?_
        refine TW.take rfl (Yl.move rfl) rfl ?_
        refine TW.take rfl (Yl.move rfl) rfl ?_
        refine TW.take rfl (Yl.nilPtr rfl) rfl ?_
        refine TW.take rfl (Yl.fieldAddr _ rfl (fun _ => FactsRDev4.fa71_1 _ _ _)) rfl ?_
        refine TW.take rfl (Yl.load (v := .slice (some ⟨bS2, 0, none⟩) n capS2) rfl (by repeat (first | exact List.Mem.head _ | refine List.Mem.tail _ ?_)) ((by rw [← hvS2]; rfl)) FactsRDev4.one51) rfl ?_
        refine TW.take rfl (Yl.move rfl) rfl ?_
        refine TW.take rfl (Yl.move rfl) rfl ?_
        refine TW.take rfl (Yl.move rfl) rfl ?_
        refine TW.nil ?_
        refine AW.act 11 (by kernel_rfl) rfl ?_
        refine LW.append (((s.crash n keep).now.getD i []).map u8v) rfl rfl Tryd.underlying26 Tryd.underlying26 (.inr ⟨_, rfl⟩) FactsRDev4.info5 rfl (OwnB.nil) (Take.none _) (fun _ => lenOf_slice _ _ _ _) (first_rd (hva.rd (by repeat (first | exact Take.head _ _ | apply Take.tail))) (by rw [List.length_map, hxl]) (fun h => (by cases h))) (by rw [List.length_map, hxl]) (u8vs_one _) (by simp only [List.length_nil]; omega) (by simp only [List.length_nil]; omega) rfl ?_
        intro v4 ch4 ho4; replace ho4 := OwnB.app ho4 rfl hxl.symm; rw [List.nil_append] at ho4
        refine LW.nil ?_
        refine AW.back (fun _ s => Held.of s (by repeat (first | exact Sub.nil _ | refine Sub.cons1 (by repeat (first | exact Take.head _ _ | apply Take.tail)) ?_))) ?_
        refine AW.act 13 (by kernel_rfl) rfl ?_
        refine LW.append (((s.crash n keep).now.getD i []).map u8v) rfl rfl Tryd.underlying26 Tryd.underlying26 (.inr ⟨_, rfl⟩) FactsRDev4.info5 rfl (OwnB.nil) (Take.none _) (fun _ => lenOf_slice _ _ _ _) (first_rd (hva.rd (by repeat (first | exact Take.head _ _ | apply Take.tail))) (by rw [List.length_map, hxl]) (fun h => (by cases h))) (by rw [List.length_map, hxl]) (u8vs_one _) (by simp only [List.length_nil]; omega) (by simp only [List.length_nil]; omega) rfl ?_
        intro v5 ch5 ho5; replace ho5 := OwnB.app ho5 rfl hxl.symm; rw [List.nil_append] at ho5
        refine LW.nil ?_
        refine AW.back (fun _ s => Held.of s (by repeat (first | exact Sub.nil _ | refine Sub.cons1 (by repeat (first | exact Take.head _ _ | apply Take.tail)) ?_))) ?_
        refine AW.takes [14] 3 (by kernel_rfl) (by kernel_rfl) rfl (by repeat (first | exact PO.body | refine PO.then_ ?_ | refine PO.block ?_ | refine PO.noGoto ?_)) (fun _ s => Held.of s (by repeat (first | exact Sub.nil _ | refine Sub.cons1 (by repeat (first | exact Take.head _ _ | apply Take.tail)) ?_))) ?_
        refine TW.take rfl (Yl.indexAddr (i) rfl rfl Tryd.underlying51 FactsRDev4.ixs51 (by omega) (by omega) (by simp)) rfl ?_
        refine TW.nil ?_
        refine AW.act 15 (by kernel_rfl) rfl ?_
        refine LW.store rfl rfl (by repeat (first | exact Take.head _ _ | apply Take.tail)) (by have h9 := hnv.1; rw [List.length_append]; omega) FactsRDev4.sz26 (OwnS.one ho4) ?_
        rw [List.set_append_left _ _ (by have h9 := hnv.1; omega)]
        refine LW.nil ?_
        refine AW.back (fun _ s => Held.of s (by repeat (first | exact Sub.nil _ | refine Sub.cons1 (by repeat (first | exact Take.head _ _ | apply Take.tail)) ?_))) ?_
        refine AW.takes [16] 1 (by kernel_rfl) (by kernel_rfl) rfl (by repeat (first | exact PO.body | refine PO.then_ ?_ | refine PO.block ?_ | refine PO.noGoto ?_)) (fun _ s => Held.of s (by repeat (first | exact Sub.nil _ | refine Sub.cons1 (by repeat (first | exact Take.head _ _ | apply Take.tail)) ?_))) ?_
        refine TW.take rfl (Yl.indexAddr (i) rfl rfl Tryd.underlying51 FactsRDev4.ixs51 (by omega) (by omega) (by simp)) rfl ?_
        refine TW.nil ?_
        refine AW.act 17 (by kernel_rfl) rfl ?_
        refine LW.store rfl rfl (by repeat (first | exact Take.head _ _ | apply Take.tail)) (by have h9 := hsv.1; rw [List.length_append]; omega) FactsRDev4.sz26 (OwnS.one ho5) ?_
        rw [List.set_append_left _ _ (by have h9 := hsv.1; omega)]
        refine LW.nil ?_
        refine AW.back (fun _ s => Held.of s (by repeat (first | exact Sub.nil _ | refine Sub.cons1 (by repeat (first | exact Take.head _ _ | apply Take.tail)) ?_))) ?_
        refine AW.done (by kernel_rfl) ?_
        refine NW.block ?_
        refine NW.then_ ?_
        refine CW.region ?_
        refine LW.add64 rfl rfl (by omega) (by omega) rfl ?_
        refine LW.move rfl rfl ?_
        refine LW.nil ?_
        refine NW.meet ((i + 1, nv.set i v4, sv.set i v5, ch4 ++ (ch5 ++ ar))) ?j5 ?e5 ?h5
        case j5 => exact ⟨⟨by omega, by
          obtain ⟨A6, cp6, rfl, _, _⟩ := OwnS.val ho4
          have h9 := (hnv.more (r' := ch4 ++ (ch5 ++ ar)) (fun x hx => by simp [hx])).set hmx hin (show SecAt W B (ch4 ++ (ch5 ++ ar)) (.slice A6 ((s.crash n keep).now.getD i []).length cp6) ((s.crash n keep).now.getD i []) from ⟨A6, cp6, by rw [hxl], hxl, (OwnS.src ho4).more (fun x hx => by simp [hx])⟩)
          rw [hgX] at h9
          exact h9, by
          obtain ⟨A6, cp6, rfl, _, _⟩ := OwnS.val ho5
          have h9 := (hsv.more (r' := ch4 ++ (ch5 ++ ar)) (fun x hx => by simp [hx])).set hmx hin (show SecAt W B (ch4 ++ (ch5 ++ ar)) (.slice A6 ((s.crash n keep).now.getD i []).length cp6) ((s.crash n keep).now.getD i []) from ⟨A6, cp6, by rw [hxl], hxl, (OwnS.src ho5).more (fun x hx => by simp [hx])⟩)
          rw [hgX] at h9
          exact h9⟩, by dsimp only; omega⟩
        case e5 => repeat (first | exact Env.Le.nil _ | refine Env.Le.cons rfl ?_)
        case h5 => exact Sub.heap_cons (by repeat (first | exact Take.head _ _ | apply Take.tail)) (Sub.heap_cons (by repeat (first | exact Take.head _ _ | apply Take.tail)) (Sub.heap_cons (by repeat (first | exact Take.head _ _ | apply Take.tail)) (Sub.heap_cons (by repeat (first | exact Take.head _ _ | apply Take.tail)) (Sub.heap_cons (by repeat (first | exact Take.head _ _ | apply Take.tail)) (Sub.heap_cons (by repeat (first | exact Take.head _ _ | apply Take.tail)) (Sub.heap_cons (by repeat (first | exact Take.head _ _ | apply Take.tail)) (Sub.heap_cons (by repeat (first | exact Take.head _ _ | apply Take.tail)) (Sub.heap_cons (by repeat (first | exact Take.head _ _ | apply Take.tail)) (Sub.heap_cons (by repeat (first | exact Take.head _ _ | apply Take.tail)) (Sub.heap_cons (Take.both (by repeat (first | exact Take.head _ _ | apply Take.tail)) (Take.both (by repeat (first | exact Take.head _ _ | apply Take.tail)) (by repeat (first | exact Take.head _ _ | apply Take.tail)))) (Sub.heap_nil _)))))))))))
    · replace hc21 := of_decide_eq_false hc21
      try dsimp only at hc21
      have hin : i = n := by omega
      subst hin
      refine CW.exit ?_
      refine NW.then_exit ?_
      refine NW.then_exit ?_
      refine NW.block_exit ?_
      refine NW.then_ ?_
      refine CW.seq ?_
      have hXl : (s.crash i keep).now.length = i := hX.1
      have hall : mixL (s.crash i keep).now (List.replicate i zSec) i = (s.crash i keep).now := by
        have h9 := mixL_all (s.crash i keep).now (List.replicate i zSec) (by rw [List.length_replicate, hXl])
        rwa [hXl] at h9
      rw [hall] at hnv hsv
      refine CW.region ?_
      refine LW.move rfl rfl ?_
      refine LW.assign rfl rfl ?_
      refine LW.nil ?_
      refine NW.then_ ?_
      refine CW.ret ?_
      refine NW.ret1 rfl rfl ⟨_, ⟨{ r2 with nv := nv, sv := sv, chN := [cr bN2 26 (nv ++ slN2)], chS := [cr bS2 26 (sv ++ slS2)], ar := ar }, rfl, ⟨.inr ⟨bN2, capN2, slN2, hvN2, by rw [hnv.1, Nat.mul_one], hcN2, hslN2, rfl⟩, .inr ⟨bS2, capS2, slS2, hvS2, by rw [hsv.1, Nat.mul_one], hcS2, hslS2, rfl⟩, hnv, hsv, hok, rfl⟩, rfl⟩, ?_⟩
      rw [← hchN, ← hchS]; exact Sub.app (by repeat (first | exact Take.head _ _ | apply Take.tail)) (Sub.take (Take.rd (by repeat (first | exact Take.head _ _ | apply Take.tail)) (by repeat (first | exact Take.head _ _ | apply Take.tail)) (by repeat (first | exact Take.head _ _ | apply Take.tail)) (by repeat (first | exact Take.head _ _ | apply Take.tail)) (by repeat (first | exact Take.head _ _ | apply Take.tail))) (Sub.one (Take.rd (by repeat (first | exact Take.head _ _ | apply Take.tail)) (by repeat (first | exact Take.head _ _ | apply Take.tail)) (by repeat (first | exact Take.head _ _ | apply Take.tail)) (by repeat (first | exact Take.head _ _ | apply Take.tail)) (by repeat (first | exact Take.head _ _ | apply Take.tail)))))
end
end Go.Proofs.YtmgpldgldgdenaaDoor
