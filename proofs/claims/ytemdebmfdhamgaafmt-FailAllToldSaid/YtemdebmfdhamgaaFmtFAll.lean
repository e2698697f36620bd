/-
  What FailAll uses besides: errors.New; the text of a chain through the interface; the slices cut.
-/
import Derived.Test.YtemdebmfdhamgaaFmtFOther
import Derived.Test.YtemdebmfdhamgaaFmtBegun
import Derived.Test.YtemdebmfdhamgaaFmtCut
namespace Go.Proofs.YtemdebmfdhamgaaFmt
open Go.RowKit Go.Extern
namespace FactsFAll
theorem concrete76 : Tryf.prog.concrete 76 = true := by kernel_rfl
theorem fname12 : (Tryf.f12.name == "runtime.NumGoroutine") = false := by kernel_rfl
theorem fname60 : (Tryf.f60.name == "runtime.NumGoroutine") = false := by kernel_rfl
end FactsFAll
theorem min_take' {α : Type} (l : List α) (k : Nat) : (if (k : Int) < (l.length : Int) then (k : Int) else (l.length : Int)) = (((l.take k).length : Nat) : Int) := by
  rw [List.length_take]
  split <;> omega
theorem textL_le' (M : Nat) (c : Int) : ∀ q : List (Nat × List UInt8), (∀ x ∈ q.map (·.2), x.length ≤ M) → (textL q c).length ≤ q.length * (M + 2) + 8
  | [], _ => by simpa [textL] using errT_le c
  | a :: q, h => by
    have h1 := textL_le' M c q (fun x hx => h x (by simp at hx ⊢; exact .inr hx))
    have h2 := h a.2 (by simp)
    simp only [textL, List.length_append, List.length_cons, List.length_nil, Nat.add_mul]
    omega
section
variable (W : World) (B : Nat)
theorem errors_New (s : List UInt8) : Spec Tryf.prog W B 14 [strV s] [] (fun v post => ∃ z, v = plV z ∧ post = [cr z 78 [strV s]]) := by
  refine Spec.enter ([]) Tryf.func14 rfl Tryf.ntmps14 rfl (by first | rfl | simp) (fun w0 => ?_)
  refine CW.seq ?_
  refine CW.region ?_
  refine LW.assign rfl rfl ?_
  refine LW.nil ?_
  refine NW.then_ ?_
  refine CW.seq ?_
  refine CW.region ?_
  refine LW.move rfl rfl ?_
  refine LW.build (vs := [_]) (#[strV s]) ⟨rfl, trivial⟩ (by kernel_rfl) rfl ?_
  refine LW.box rfl rfl ?_
  intro bb5
  refine LW.mkIface rfl FactsFAll.concrete76 rfl ?_
  refine LW.assign rfl rfl ?_
  refine LW.nil ?_
  refine NW.then_ ?_
  refine CW.ret ?_
  refine NW.ret1 rfl rfl ⟨_, ⟨bb5, rfl, rfl⟩, ?_⟩
  exact Sub.one (by repeat (first | exact Take.head _ _ | apply Take.tail))
theorem err_says (q : List (Nat × List UInt8)) (c : Int) (hl : (textL q c).length ≤ 9223372036854775807) :
    ∃ t x g fn code, cV (ats q) (eno c) = .iface t x ∧ Meth Tryf.prog t x "Error" g x ∧ Tryf.prog.funcs[g]? = some fn ∧ fn.body = some code ∧ (fn.name == "runtime.NumGoroutine") = false ∧
      Spec Tryf.prog W B g [x] (cR (ats q) (eno c)) (fun v post => v = strV (textL q c) ∧ post = cR (ats q) (eno c)) := by
  rcases q with _ | ⟨⟨p, s⟩, q⟩
  · exact ⟨_, _, _, _, _, rfl, mErrE c, Tryf.func12, rfl, FactsFAll.fname12, errno_Error W B c⟩
  · exact ⟨_, _, _, _, _, rfl, mErrA p, Tryf.func60, rfl, FactsFAll.fname60, at_Error W B ((p, s) :: q) c hl q [] p s rfl⟩
end
end Go.Proofs.YtemdebmfdhamgaaFmt
