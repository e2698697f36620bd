/-
  The texts of errors; fmt.Errorf and 'other' around a chain of *fail.at.
-/
import Derived.Test.YtemdebmfdhamgaaFmtFIs
namespace Go.Proofs.YtemdebmfdhamgaaFmt
open Go.RowKit Go.Extern
namespace FactsFOther
theorem fa58_0 (b o : Nat) (w : World) : (Instr.fieldAt 58 (.pointer (some ⟨b, o, none⟩)) 0).run Tryf.prog w = .ok (.pointer (some ⟨b, o, none⟩)) w := by kernel_rfl
theorem fa58_1 (b o : Nat) (w : World) : (Instr.fieldAt 58 (.pointer (some ⟨b, o, none⟩)) 1).run Tryf.prog w = .ok (.pointer (some ⟨b, o + 1, none⟩)) w := by kernel_rfl
theorem fname12 : (Tryf.f12.name == "runtime.NumGoroutine") = false := by kernel_rfl
theorem fname26 : (Tryf.f26.name == "runtime.NumGoroutine") = false := by kernel_rfl
theorem fname60 : (Tryf.f60.name == "runtime.NumGoroutine") = false := by kernel_rfl
theorem info20 : (Tryf.prog.info? 20).map (fun i => (i.zero, i.size, i.bytes)) = some (some (.nilIface), 1, 16) := by kernel_rfl
theorem mixed : Tryf.prog.follows .mixedOrders = true := by kernel_rfl
theorem one26 : oneB Tryf.prog 26 = true := by kernel_rfl
theorem one9 : oneB Tryf.prog 9 = true := by kernel_rfl
end FactsFOther
def errNames : List (List UInt8) := [[111, 107], [102, 111, 114, 109], [114, 97, 110, 103, 101], [110, 111, 110, 101], [116, 119, 105, 99, 101], [102, 117, 108, 108], [99, 97, 112, 97, 99, 105, 116, 121], [116, 104, 114, 111, 116, 116, 108, 101], [115, 116, 97, 116, 101], [100, 111, 119, 110], [99, 111, 114, 114, 117, 112, 116], [108, 97, 114, 103, 101], [107, 105, 110, 100]]
def errI (c : Int) : Nat := (if 12 < (if 0 > c then 0 else c) then 12 else (if 0 > c then 0 else c)).toNat
theorem errI_lt (c : Int) : errI c < 13 := by unfold errI; split <;> omega
def errT (c : Int) : List UInt8 := errNames.getD (errI c) []
theorem errT_le (c : Int) : (errT c).length ≤ 8 := by
  have h : ∀ i, i < 13 → (errNames.getD i []).length ≤ 8 := by decide
  exact h _ (errI_lt c)
theorem errNames_at (i : Nat) (hi : i < 13) : (errNames.map strV).toArray[i]? = some (strV (errNames.getD i [])) := by
  simp [List.getElem?_eq_getElem (show i < errNames.length from hi)]
theorem ats_app (q r : List (Nat × List UInt8)) : ats (q ++ r) = ats q ++ ats r := List.map_append
def textL : List (Nat × List UInt8) → Int → List UInt8
  | [], c => errT c
  | (_, s) :: r, c => s ++ [58, 32] ++ textL r c
theorem textL_app (q r : List (Nat × List UInt8)) (c : Int) : (textL r c).length ≤ (textL (q ++ r) c).length := by
  induction q with
  | nil => exact Nat.le_refl _
  | cons a q ih => simp only [List.cons_append, textL, List.length_append]; omega
theorem isAggS (w : World) : (isAgg 9).run Tryf.prog w = .ok false w := by kernel_rfl
theorem size1S : (Tryf.prog.info? 9).map (·.size) = some 1 := by kernel_rfl
theorem mErrA (p : Nat) : Meth Tryf.prog 56 (.pointer (some ⟨p, 0, none⟩)) "Error" 60 (.pointer (some ⟨p, 0, none⟩)) := by intro w; kernel_rfl
theorem mErrE (c : Int) : Meth Tryf.prog 24 (.int .i64 c) "Error" 12 (.int .i64 c) := by intro w; kernel_rfl
section
variable (W : World) (B : Nat)
theorem errno_Error (c : Int) : Spec Tryf.prog W B 12 [.int .i64 c] [] (fun v post => v = strV (errT c) ∧ post = []) := by
  refine Spec.enter ([]) Tryf.func12 rfl Tryf.ntmps12 rfl (by first | rfl | simp) (fun w0 => ?_)
  refine CW.seq ?_
  refine CW.region ?_
  refine LW.assign rfl rfl ?_
  refine LW.nil ?_
  refine NW.then_ ?_
  refine CW.seq ?_
  refine CW.region ?_
  refine LW.build (vs := [_, _, _, _, _, _, _, _, _, _, _, _, _]) ((errNames.map strV).toArray) ⟨rfl, rfl, rfl, rfl, rfl, rfl, rfl, rfl, rfl, rfl, rfl, rfl, rfl, trivial⟩ (by kernel_rfl) rfl ?_
  refine LW.move rfl rfl ?_
  refine LW.max2 (if 0 > c then 0 else c) rfl rfl rfl rfl ?_
  refine LW.min2 ((if 12 < (if 0 > c then 0 else c) then 12 else (if 0 > c then 0 else c))) rfl rfl (rfl) rfl ?_
  refine LW.indexArr (v := strV (errT c)) (errI c) rfl rfl (by unfold errI; split <;> omega) Tryf.underlying65 (errI_lt c) isAggS size1S (errNames_at _ (errI_lt c)) rfl ?_
  refine LW.assign rfl rfl ?_
  refine LW.nil ?_
  refine NW.then_ ?_
  refine CW.ret ?_
  refine NW.ret1 rfl rfl ⟨_, ⟨rfl, rfl⟩, ?_⟩
  exact Sub.nil _
theorem at_Error (l : List (Nat × List UInt8)) (c : Int) (hl : (textL l c).length ≤ 9223372036854775807) : ∀ (r q : List (Nat × List UInt8)) (p : Nat) (s : List UInt8), l = q ++ (p, s) :: r →
    Spec Tryf.prog W B 60 [.pointer (some ⟨p, 0, none⟩)] (cR (ats l) (eno c)) (fun v post => v = strV (textL ((p, s) :: r) c) ∧ post = cR (ats l) (eno c)) := by
  intro r
  induction r with
  | nil =>
    intro q p s hq
    have hm : cr p 58 [strV s, eno c] ∈ cR (ats l) (eno c) := by rw [hq, ats_app]; exact cR_mem (ats q) false p s [] (eno c)
    have h1 := textL_app q [(p, s)] c
    rw [← hq] at h1
    simp only [textL, List.length_append, List.length_cons, List.length_nil] at h1
    refine Spec.enter ([cR (ats l) (eno c)]) Tryf.func60 rfl Tryf.ntmps60 rfl (by first | rfl | simp) (fun w0 => ?_)
    refine CW.seq ?_
    refine CW.region ?_
    refine LW.assign rfl rfl ?_
    refine LW.nil ?_
    refine NW.then_ ?_
    refine CW.seq ?_
    refine CW.drawH (cR (ats l) (eno c)) FactsFOther.mixed ?_
    refine AW.takes [0, 1, 2, 3, 4, 5, 6, 7, 8] 3 (by kernel_rfl) (by kernel_rfl) rfl (by repeat (first | exact PO.body | refine PO.then_ ?_ | refine PO.block ?_ | refine PO.noGoto ?_)) (fun _ s => Held.of s (Sub.one (by repeat (first | exact Take.head _ _ | apply Take.tail)))) ?_
    refine TW.take rfl (Yl.move rfl) rfl ?_
    refine TW.take rfl (Yl.nilPtr rfl) rfl ?_
    refine TW.take rfl (Yl.fieldAddr _ rfl (fun _ => FactsFOther.fa58_0 _ _ _)) rfl ?_
    refine TW.take rfl (Yl.loadIn rfl hm rfl FactsFOther.one9) rfl ?_
    refine TW.take rfl (Yl.strAdd rfl rfl (by simp; omega)) rfl ?_
    refine TW.take rfl (Yl.move rfl) rfl ?_
    refine TW.take rfl (Yl.nilPtr rfl) rfl ?_
    refine TW.take rfl (Yl.fieldAddr _ rfl (fun _ => FactsFOther.fa58_1 _ _ _)) rfl ?_
    refine TW.take rfl (Yl.loadIn rfl hm rfl FactsFOther.one26) rfl ?_
    refine TW.nil ?_
    refine AW.act 9 (by kernel_rfl) rfl ?_
    refine LW.invCall (args := []) rfl (mErrE c) (errno_Error W B c) Tryf.func12 rfl FactsFOther.fname12 trivial (Take.none _) rfl ?_
    rintro _ _ ⟨rfl, rfl⟩
    refine LW.nil ?_
    refine AW.back (fun _ s => Held.of s (Sub.one (by repeat (first | exact Take.head _ _ | apply Take.tail)))) ?_
    refine AW.takes [10, 11] 0 (by kernel_rfl) (by kernel_rfl) rfl (by repeat (first | exact PO.body | refine PO.then_ ?_ | refine PO.block ?_ | refine PO.noGoto ?_)) (fun _ s => Held.of s (Sub.one (by repeat (first | exact Take.head _ _ | apply Take.tail)))) ?_
    refine TW.take rfl (Yl.strAdd rfl rfl (by simp; omega)) rfl ?_
    refine TW.take rfl (Yl.assign rfl) rfl ?_
    refine TW.nil ?_
    refine AW.done (by kernel_rfl) ?_
    refine NW.then_ ?_
    refine CW.ret ?_
    refine NW.ret1 rfl rfl ⟨_, ⟨rfl, rfl⟩, ?_⟩
    exact Sub.one (by repeat (first | exact Take.head _ _ | apply Take.tail))
  | cons a r ih =>
    obtain ⟨p', s'⟩ := a
    intro q p s hq
    have hm : cr p 58 [strV s, cV (ats ((p', s') :: r)) (eno c)] ∈ cR (ats l) (eno c) := by rw [hq, ats_app]; exact cR_mem (ats q) false p s (ats ((p', s') :: r)) (eno c)
    have h1 := textL_app q ((p, s) :: (p', s') :: r) c
    rw [← hq] at h1
    simp only [textL, List.length_append, List.length_cons, List.length_nil] at h1
    have hi := ih (q ++ [(p, s)]) p' s' (by rw [hq]; simp)
    refine Spec.enter ([cR (ats l) (eno c)]) Tryf.func60 rfl Tryf.ntmps60 rfl (by first | rfl | simp) (fun w0 => ?_)
    refine CW.seq ?_
    refine CW.region ?_
    refine LW.assign rfl rfl ?_
    refine LW.nil ?_
    refine NW.then_ ?_
    refine CW.seq ?_
    refine CW.drawH (cR (ats l) (eno c)) FactsFOther.mixed ?_
    refine AW.takes [0, 1, 2, 3, 4, 5, 6, 7, 8] 3 (by kernel_rfl) (by kernel_rfl) rfl (by repeat (first | exact PO.body | refine PO.then_ ?_ | refine PO.block ?_ | refine PO.noGoto ?_)) (fun _ s => Held.of s (Sub.one (by repeat (first | exact Take.head _ _ | apply Take.tail)))) ?_
    refine TW.take rfl (Yl.move rfl) rfl ?_
    refine TW.take rfl (Yl.nilPtr rfl) rfl ?_
    refine TW.take rfl (Yl.fieldAddr _ rfl (fun _ => FactsFOther.fa58_0 _ _ _)) rfl ?_
    refine TW.take rfl (Yl.loadIn rfl hm rfl FactsFOther.one9) rfl ?_
    refine TW.take rfl (Yl.strAdd rfl rfl (by simp; omega)) rfl ?_
    refine TW.take rfl (Yl.move rfl) rfl ?_
    refine TW.take rfl (Yl.nilPtr rfl) rfl ?_
    refine TW.take rfl (Yl.fieldAddr _ rfl (fun _ => FactsFOther.fa58_1 _ _ _)) rfl ?_
    refine TW.take rfl (Yl.loadIn rfl hm rfl FactsFOther.one26) rfl ?_
    refine TW.nil ?_
    refine AW.act 9 (by kernel_rfl) rfl ?_
    refine LW.invCall (args := []) rfl (mErrA p') hi Tryf.func60 rfl FactsFOther.fname60 trivial (by repeat (first | exact Take.head _ _ | apply Take.tail)) rfl ?_
    rintro _ _ ⟨rfl, rfl⟩
    refine LW.nil ?_
    refine AW.back (fun _ s => Held.of s (Sub.one (by repeat (first | exact Take.head _ _ | apply Take.tail)))) ?_
    refine AW.takes [10, 11] 0 (by kernel_rfl) (by kernel_rfl) rfl (by repeat (first | exact PO.body | refine PO.then_ ?_ | refine PO.block ?_ | refine PO.noGoto ?_)) (fun _ s => Held.of s (Sub.one (by repeat (first | exact Take.head _ _ | apply Take.tail)))) ?_
    refine TW.take rfl (Yl.strAdd rfl rfl (by simp [textL]; omega)) rfl ?_
    refine TW.take rfl (Yl.assign rfl) rfl ?_
    refine TW.nil ?_
    refine AW.done (by kernel_rfl) ?_
    refine NW.then_ ?_
    refine CW.ret ?_
    refine NW.ret1 rfl rfl ⟨_, ⟨rfl, rfl⟩, ?_⟩
    exact Sub.one (by repeat (first | exact Take.head _ _ | apply Take.tail))
theorem fmt_Errorf {t g : Nat} (hs : Says t g) (x : Value) (b0 cp : Nat) (rows : List Row) (spec : Spec Tryf.prog W B g [x] rows (fun v post => (∃ s, v = strV s) ∧ post = rows)) :
    Spec Tryf.prog W B 26 [strV otherF, .slice (some ⟨b0, 0, none⟩) 1 cp] ([cr b0 20 [.iface t x]] ++ rows)
      (fun v post => ∃ q m, v = .iface 94 (.pointer (some ⟨q, 0, none⟩)) ∧ post = [cr q 129 [strV m, .iface t x]] ++ rows) := by
  refine Spec.enter ([[cr b0 20 [.iface t x]], rows]) Tryf.func26 rfl Tryf.ntmps26 rfl (by first | rfl | simp) (fun w0 => ?_)
  refine CW.seq ?_
  refine CW.region ?_
  refine LW.assign rfl rfl ?_
  refine LW.nil ?_
  refine NW.then_ ?_
  refine CW.seq ?_
  refine CW.seq ?_
  refine CW.region ?_
  refine LW.move rfl rfl ?_
  refine LW.move rfl rfl ?_
  refine LW.callRow (args := [strV otherF, .slice (some ⟨b0, 0, none⟩) 1 cp]) (fmt_errorf W B hs x b0 cp rows spec) ⟨rfl, rfl, trivial⟩ (Take.both (by repeat (first | exact Take.head _ _ | apply Take.tail)) (by repeat (first | exact Take.head _ _ | apply Take.tail))) rfl ?_
  rintro _ _ ⟨q, m, rfl, rfl⟩
  refine LW.assign rfl rfl ?_
  refine LW.nil ?_
  refine NW.then_ ?_
  refine CW.seq ?_
  refine CW.region ?_
  refine LW.move rfl rfl ?_
  refine LW.ifaceNotNil _ rfl Tryf.underlying26 (.inr ⟨⟨_, _, rfl⟩, rfl⟩) rfl ?_
  refine LW.nil ?_
  refine NW.then_ ?_
  refine CW.cond_true rfl ?_
  refine CW.seq ?_
  refine CW.region ?_
  refine LW.move rfl rfl ?_
  refine LW.assign rfl rfl ?_
  refine LW.nil ?_
  refine NW.then_ ?_
  refine CW.ret ?_
  refine NW.then_ret ?_
  refine NW.ret1 rfl rfl ⟨_, ⟨q, m, rfl, rfl⟩, ?_⟩
  exact Sub.one (by repeat (first | exact Take.head _ _ | apply Take.tail))
theorem other_ok (l : List (Nat × List UInt8)) (c : Int) (hl : (textL l c).length ≤ 9223372036854775807) :
    Spec Tryf.prog W B 7 [cV (ats l) (eno c)] (cR (ats l) (eno c)) (fun v post => ∃ q m, v = cV ((true, q, m) :: ats l) (eno c) ∧ post = cR ((true, q, m) :: ats l) (eno c)) := by
  obtain ⟨t, g, x, hx, hs, spec⟩ : ∃ t g x, cV (ats l) (eno c) = .iface t x ∧ Says t g ∧ Spec Tryf.prog W B g [x] (cR (ats l) (eno c)) (fun v post => (∃ s, v = strV s) ∧ post = cR (ats l) (eno c)) := by
    rcases l with _ | ⟨⟨p, s⟩, l⟩
    · exact ⟨_, _, _, rfl, saysE, (errno_Error W B c).mono fun v post h => ⟨⟨_, h.1⟩, h.2⟩⟩
    · exact ⟨_, _, _, rfl, saysA, (at_Error W B ((p, s) :: l) c hl l [] p s rfl).mono fun v post h => ⟨⟨_, h.1⟩, h.2⟩⟩
  refine Spec.enter ([cR (ats l) (eno c)]) Tryf.func7 rfl Tryf.ntmps7 rfl (by first | rfl | simp) (fun w0 => ?_)
  refine CW.seq ?_
  refine CW.region ?_
  refine LW.assign rfl rfl ?_
  refine LW.nil ?_
  refine NW.then_ ?_
  refine CW.seq ?_
  refine CW.region ?_
  refine LW.move rfl rfl ?_
  refine LW.buildSlice (vs := [_]) ⟨rfl, trivial⟩ rfl (by intro v hv; simp at hv; subst hv; rw [hx]; rfl) Tryf.underlying93 FactsFOther.info20 rfl (by decide) (by decide) rfl ?_
  intro bs4
  rw [hx]
  refine LW.call (fmt_Errorf W B hs x bs4 1 (cR (ats l) (eno c)) spec) Tryf.func26 rfl FactsFOther.fname26 ⟨rfl, rfl, trivial⟩ (Take.both (by repeat (first | exact Take.head _ _ | apply Take.tail)) (by repeat (first | exact Take.head _ _ | apply Take.tail))) rfl ?_
  rintro _ _ ⟨q, m, rfl, rfl⟩
  refine LW.assign rfl rfl ?_
  refine LW.nil ?_
  refine NW.then_ ?_
  refine CW.ret ?_
  refine NW.ret1 rfl rfl ⟨_, ⟨q, m, rfl, by rw [show cR ((true, q, m) :: ats l) (eno c) = [cr q 129 [strV m, .iface t x]] ++ cR (ats l) (eno c) from by rw [← hx]; rfl]⟩, ?_⟩
  exact Sub.one (by repeat (first | exact Take.head _ _ | apply Take.tail))
end
end Go.Proofs.YtemdebmfdhamgaaFmt
