/-
  PROVED HERE: 'Rows.NamesSaid': the law 'fieldfarelaw0.Names' returns true in whatever memory it is called, and leaves what was there as it was. No condition (the law takes no argument).
  The walk: two slice literals of the same 52 numbers are made; a loop over 52 rounds compares them place by place. (The frame of the row is the kit's proof-skeleton.)
-/
import Derived.Test.YtmgpldgldgdenaaRows
import Derived.WalkKit
import Derived.ProofKit
import Derived.OpenShut
import Derived.Great.BuildSlice
import Derived.Deep.QuietTactic
import Derived.BigQuiet
namespace Go.Proofs.Ytmgpldgldgdenaa.names
open Go.ChangeShapes Go.WideShapes Go.ChangeAt Go.RowKit
set_option linter.unusedVariables false      -- a walk need not use every 'w<i>' (that an integer argument fits its kind)

theorem own : ownKnob Try.prog.godebug = none := by kernel_rfl

/-! ### STEP 1: THE WALK: the Go text returns true. 'Grown w w'': the world has at most new blocks (Derived/RowKit3.lean). Part the cases AHEAD of 'go_enter' where a test parts the walk; take each callee by a contract of your own. -/
def zs : List Int := [0, 1, 2, 3, 4, 5, 6, 7, 8, 9, 10, 11, 12, 64, 8, 1048576, 1000, 40, 12, 20, 4, 6, 64, 8, 4, 4, 400, 1, 2, 1, 2, 3, 4, 1, 2, 3, 4, 5, 6, 7, 8, 9, 10, 11, 12, 13, 14, 15, 0, 1, 2, 3]
def row : Array Value := (zs.map (Value.int .i64)).toArray
theorem grown_drewN {a b : World} (h : Grown a b) (n : Nat) : Grown a (b.drewN n) := by
  induction n with
  | zero => exact h
  | succ n ih => exact ih.drew
theorem row_at (k : Nat) (h : k < 52) : ∃ n, row[k]? = some (.int .i64 n) := by
  have hl : zs.length = 52 := rfl
  refine ⟨zs[k]'(by omega), ?_⟩
  unfold row
  simp [List.getElem?_eq_getElem (show k < zs.length by omega)]
set_option maxHeartbeats 400000 in
theorem walk  (w : World) :
    Calls Try.prog 3 #[] w fun e w' => e = .returned (.bool true) ∧ Grown w w' := by
  go_enter Try.func3, Try.ntmps3
  go_wp2_with (refine wpList_buildFlatAt rfl 22 3 52 _ rfl .i64 zs _ rfl _ rfl Try.underlying22 (by kernel_rfl) (by kernel_rfl) rfl (by decide) (by decide) rfl ?_)
  have hz : (List.map (Value.int .i64) zs).toArray = row := rfl
  rw [hz]
  have hA : ∀ k, ((w.alloc (.cells row 3)).alloc (.cells row 3)).cell? ⟨w.heap.size, k, none⟩ = row[k]? := fun k => by
    rw [World.cell?_alloc_lt _ _ _ (by simp)]; simp
  have hB : ∀ k, ((w.alloc (.cells row 3)).alloc (.cells row 3)).cell? ⟨w.heap.size + 1, k, none⟩ = row[k]? := fun k => by
    have h := World.cell?_alloc_new (w.alloc (.cells row 3)) row 3 k
    rwa [World.size_alloc] at h
  have hG : Grown w ((w.alloc (.cells row 3)).alloc (.cells row 3)) := ((Grown.refl _).alloc _ _).alloc _ _
  generalize (w.alloc (.cells row 3)).alloc (.cells row 3) = w2 at hA hB hG ⊢
  go_loopw [3] (fun i wr => ∃ k : Nat, k ≤ 52 ∧ i = .int .i64 k ∧ ∃ n, wr = w2.drewN n) (fun i _ => 52 - (intOf i).toNat)
  case atStart => exact ⟨0, by omega, rfl, 0, rfl⟩
  case round =>
    obtain ⟨k, hk, rfl, n, rfl⟩ := hrel
    by_cases hlt : k < 52
    · obtain ⟨m, hm⟩ := row_at k hlt
      have h1 := hA k
      have h2 := hB k
      rw [hm] at h1 h2
      have hi : (0 : Int) ≤ (k : Int) := by omega
      have hi2 : (k : Int) < 52 := by omega
      clear hA hB
      go_wp2
      go_quiet (fail)
      go_wp2
      go_roundw
      case rel => exact ⟨k + 1, by omega, by go_num, _, rfl⟩
      case measure => simp [intOf]; omega
    · go_wp2
      go_ret
      exact ⟨rfl, grown_drewN hG n⟩
/-! ### THE ROW's STEP: WRITTEN OUT: LEAVE IT -/
set_option maxRecDepth 100000 in
theorem lifted (os : Os) (started : os.Started) (H : Type) (enc : TypeId × Value → H) :
    ReturnsInHanded {} Try.checked os 3 .any (Rows.namesSpec.pre6 enc Try.prog Try.f3 Rows.namesRow.domain false) (Rows.namesSpec.post enc Try.prog Try.f3 false true false false) := by
  refine returnsInHanded_of_change (C := Try.checked) own started (by kernel_rfl) Try.func3
    (ChangeSpec.witness6 (enc := enc) (C := Try.checked) false ⟨#[], #[], []⟩ 8 (by kernel_rfl) (by kernel_rfl) (by kernel_rfl) (by kernel_rfl)) ?_
  intro W base args ds gs before hval0 hW hcnd _
  have hval : ∀ (j : Nat) t v, Try.f3.params[j]? = some t → args[j]? = some v → Value.okWide Try.prog W .any base t v := hval0
  have hW' := hW
  obtain ⟨p, q, hA0, hV, rfl, hfz, hnd⟩ := hW
  have hA : DataW.TrodAll enc Try.prog W 0 (fun _ => true) true Try.f3.params.toList args.toList ds p := hA0
  rw [Try.params3] at hA hval
  obtain ⟨rfl, rfl, rfl⟩ := trodAll_none hA
  obtain ⟨rfl, rfl⟩ := trodVars_none hV
  clear hA0 hval0
  simp only [List.append_nil] at hW'
  refine (walk  W).mono fun e W' ⟨he, hg⟩ => ?_
  subst he
  exact ⟨_, rfl, post_of_same (pa := []) (pv := []) hW' (fun _ _ _ => (trodAll_cons_mk (shut_bool Try.underlying4 _) trodAll_mk0)) (fun sp _ => rfl) (fun _ _ => rfl) rfl
    (hg.frame _) hg.2.1 (ok_one (by kernel_rfl) rfl (okWide_bool_mk Try.underlying4 _))⟩

theorem over : Rows.namesRow.holds Try.pinned (OpenSpec.ofChange Rows.namesSpec) :=
  OpenClaim.holds_of_wide 3 Try.f3 rfl rfl rfl rfl rfl rfl rfl ⟨rfl, rfl, rfl, rfl, rfl⟩ rfl rfl rfl rfl rfl (by kernel_rfl) Try.func3 (by kernel_rfl)
    (of_decide_eq_true (by kernel_rfl)) (by unfold Func.isWrapper; first | (rw [if_pos (by decide +kernel)]; kernel_rfl) | (rw [if_neg (by decide +kernel)]; exact ⟨rfl, rfl⟩))
    (fun os started H enc _ => lifted os started H enc)

/-- ████ THE STATEMENT ████ -/
theorem proved : Rows.NamesSaid :=
  over
#print axioms proved
end Go.Proofs.Ytmgpldgldgdenaa.names
