/-
  WHAT LASTS: a log made; a text beside a log. The plain law: no program in sight.
-/
import Derived.Test.YtpnhonhjheahhaaDoorSnap1
namespace Go.Proofs.YtpnhonhjheahhaaDoor
open Go.RowKit
/-! ### A device, sector by sector -/
def Mix (n : Nat) (d : DevS) (X : Nat → List UInt8) : Prop := ∀ i, i < n → X i = d.N i ∨ X i = d.V i
def Hold (n : Nat) (d : DevS) (P : (Nat → List UInt8) → Prop) : Prop := ∀ X, Mix n d X → P X
def Flat (d : DevS) : Prop := d.was = d.now
def Up (d : DevS) : Prop := d.down = false ∧ d.fused = false
theorem Mix.self (n : Nat) (d : DevS) : Mix n d d.N := fun _ _ => .inl rfl
theorem Flat.V {d : DevS} (h : Flat d) (i : Nat) : d.V i = d.N i := by unfold DevS.V DevS.N; rw [show d.was = d.now from h]
theorem burn_N (d : DevS) : d.burn.N = d.N := by unfold DevS.burn; split <;> rfl
theorem burn_V (d : DevS) : d.burn.V = d.V := by unfold DevS.burn; split <;> rfl
theorem err_two {n : Nat} {d : DevS} {i : Nat} (hi : i < n) : d.err n (i : Int) 64 = if d.down = true then 9 else 0 := by
  unfold DevS.err isB
  cases d.down <;> simp [hi]
theorem write_same {n : Nat} {d : DevS} {i : Nat} {b : List UInt8} (hb : b.length = 64) (he : d.err n (i : Int) 64 ≠ 0) : d.write n (i : Int) b = d := by rw [DevS.write, if_neg (by rw [hb]; exact he)]
theorem write_V {n : Nat} {d : DevS} {i : Nat} {b : List UInt8} : (d.write n (i : Int) b).V = d.V := by
  unfold DevS.write
  split
  · rw [burn_V]; rfl
  · rfl
theorem write_N {n : Nat} {d : DevS} (hd : d.Ok n) {i : Nat} {b : List UInt8} (hb : b.length = 64) (hi : i < n) (he : d.err n (i : Int) 64 = 0) (j : Nat) : (d.write n (i : Int) b).N j = if i = j then b else d.N j := by
  rw [DevS.write, if_pos (by rw [hb]; exact he), burn_N, Int.toNat_natCast]
  show (d.now.set i b).getD j [] = _
  exact getD_set _ _ _ _ _ (by rw [hd.now.1]; exact hi)
theorem flush_N {n : Nat} {d : DevS} : (d.flush n).N = d.N := by
  unfold DevS.flush
  split
  · rfl
  · rw [burn_N]; rfl
theorem flush_flat {n : Nat} {d : DevS} (h : d.down = false) : Flat (d.flush n) := by
  unfold DevS.flush Flat
  rw [h]
  simp only [Bool.false_eq_true, if_false]
  unfold DevS.burn
  split <;> rfl
theorem flush_down {n : Nat} {d : DevS} (h : d.down = true) : d.flush n = d := by rw [DevS.flush, if_pos h]
theorem flushE_two (d : DevS) : d.flushE = if d.down = true then 9 else 0 := rfl
theorem Up.burn {d : DevS} (h : Up d) : d.burn = d := by unfold DevS.burn; rw [h.2]; rfl
theorem Up.write {n : Nat} {d : DevS} (h : Up d) (i : Int) (b : List UInt8) : Up (d.write n i b) := by
  unfold DevS.write
  split
  · rw [Up.burn (d := d.put i.toNat b) ⟨h.1, h.2⟩]; exact ⟨h.1, h.2⟩
  · exact h
theorem Up.flush {n : Nat} {d : DevS} (h : Up d) : Up (d.flush n) := by
  unfold DevS.flush
  rw [h.1]
  simp only [Bool.false_eq_true, if_false]
  rw [Up.burn (d := d.saved n) ⟨h.1, h.2⟩]; exact ⟨h.1, h.2⟩
theorem crash_up (n : Nat) (d : DevS) (keep : List Bool) : Up (d.crash n keep) := ⟨rfl, rfl⟩
theorem crash_flat (n : Nat) (d : DevS) (keep : List Bool) : Flat (d.crash n keep) := rfl
theorem crash_mix {n : Nat} {d : DevS} (hd : d.Ok n) (keep : List Bool) : Mix n d (d.crash n keep).N := fun i _ => by
  unfold DevS.N DevS.V
  rw [show (d.crash n keep).now = d.kept (looseTo d n) keep (looseTo d n).length from rfl]
  by_cases h : ∃ k, k < (looseTo d n).length ∧ (looseTo d n)[k]? = some i ∧ keep.getD k false = false
  · exact .inr (kept_was d _ keep n i hd.now.1 (fun x hx => looseTo_lt hx) _ (Nat.le_refl _) h)
  · refine .inl (kept_now d _ keep i _ (Nat.le_refl _) (fun k hk hki => ?_))
    cases hb : keep.getD k false
    · exact absurd ⟨k, hk, hki, hb⟩ h
    · rfl
theorem Mix.flat {n : Nat} {d : DevS} {X : Nat → List UInt8} (h : Mix n d X) (hf : Flat d) {i : Nat} (hi : i < n) : X i = d.N i := (h i hi).elim id (fun k => k.trans (hf.V i))

/-! ### Slots -/
def par (s : Int) : Nat := (s % 2).toNat
theorem par_lt (s : Int) : par s < 2 := by unfold par; omega
theorem par_tmod {s : Int} (h : 0 ≤ s) : s.tmod 2 = (par s : Int) := by rw [Int.tmod_eq_emod_of_nonneg h]; unfold par; omega
theorem par_succ (s : Int) : par (s + 1) = 1 - par s := by unfold par; omega
def SlotAt (X : Nat → List UInt8) (s : Int) (ns : List Int) : Prop := 0 ≤ s ∧ slotGet (X (par s)) (par s : Int) = (s, ns) ∧ ((slotGet (X (1 - par s)) ((1 - par s : Nat) : Int)).1 < s ∨ s = 0 ∧ ns = [] ∧ slotGet (X (1 - par s)) ((1 - par s : Nat) : Int) = (0, []))
theorem SlotAt.newest {X : Nat → List UInt8} {s : Int} {ns : List Int} (h : SlotAt X s ns) : newestS X = (s, ns) := by
  obtain ⟨h0, h1, h2⟩ := h
  have hp := par_lt s
  unfold newestS
  have hp2 : par s = 0 ∨ par s = 1 := by omega
  rcases hp2 with hp | hp
  · rw [hp] at h1 h2
    have h1' : slotGet (X 0) 0 = (s, ns) := h1
    have h2' : (slotGet (X 1) 1).1 < s ∨ s = 0 ∧ ns = [] ∧ slotGet (X 1) 1 = (0, []) := h2
    rcases h2' with h | ⟨rfl, rfl, h⟩
    · rw [if_pos (by rw [h1']; exact h), h1']
    · rw [if_neg (by rw [h1', h]; simp), h]
  · rw [hp] at h1 h2
    have h1' : slotGet (X 1) 1 = (s, ns) := h1
    have h2' : (slotGet (X 0) 0).1 < s ∨ s = 0 ∧ ns = [] ∧ slotGet (X 0) 0 = (0, []) := h2
    rw [if_neg, h1']
    rw [h1']
    rcases h2' with h | ⟨rfl, rfl, h⟩
    · simp only []; omega
    · rw [h]; simp
theorem SlotAt.congr {X Y : Nat → List UInt8} {s : Int} {ns : List Int} (h : SlotAt X s ns) (h0 : Y 0 = X 0) (h1 : Y 1 = X 1) : SlotAt Y s ns := by
  have hp : ∀ k, k < 2 → Y k = X k := fun k hk => by
    have : k = 0 ∨ k = 1 := by omega
    rcases this with rfl | rfl
    · exact h0
    · exact h1
  have := par_lt s
  unfold SlotAt at *
  rw [hp (par s) (by omega), hp (1 - par s) (by omega)]
  exact h
theorem SlotAt.zero {X : Nat → List UInt8} (h0 : X 0 = zSec) (h1 : X 1 = zSec) : SlotAt X 0 [] := by
  have hp : par 0 = 0 := rfl
  refine ⟨by decide, ?_, .inr ⟨rfl, rfl, ?_⟩⟩
  · rw [hp, h0, slotGet_zero]
  · rw [hp, show (1 - 0 : Nat) = 1 from rfl, h1, slotGet_zero]
/-- The other slot is given the next number: both are told of. -/
theorem SlotAt.next {X Y : Nat → List UInt8} {s : Int} {ns ns' : List Int} (h : SlotAt X s ns) (hI : s ≤ 4611686018427387904) (h4 : ns'.length ≤ 4) (hn : ∀ n ∈ ns', I64 n) (hY : Y (par (s + 1)) = slotB (s + 1) ns') (hY2 : Y (par s) = X (par s)) : SlotAt Y (s + 1) ns' := by
  obtain ⟨h0, h1, _⟩ := h
  have hp := par_succ s
  have hq := par_lt s
  refine ⟨by omega, ?_, .inl ?_⟩
  · rw [hY, ← par_tmod (by omega)]
    exact slotGet_B ⟨by omega, by omega⟩ (by omega) h4 hn
  · rw [hp, show 1 - (1 - par s) = par s by omega, hY2, h1]
    simp only []; omega

structure SetOk (n : Nat) (d r : DevS) (s : Int) (ns : List Int) : Prop where
  flat : Flat r
  slot : SlotAt r.N (s + 1) ns
  same : ∀ i, 2 ≤ i → r.N i = d.N i
structure SetNo (n : Nat) (d r : DevS) (s : Int) (ns ns' : List Int) : Prop where
  down : r.down = true
  slot : ∀ X, Mix n r X → SlotAt X s ns ∨ SlotAt X (s + 1) ns'
  same : ∀ i, 2 ≤ i → r.N i = d.N i ∧ r.V i = d.V i
theorem set_spec {n : Nat} {d : DevS} (hd : d.Ok n) {s : Int} {ns ns' : List Int} (h : Hold n d (SlotAt · s ns)) (hI : s ≤ 4611686018427387904) (h4 : ns'.length ≤ 4) (hn : ∀ n ∈ ns', I64 n) :
    ((setS n d s ns').1 = 0 ∧ SetOk n d (setS n d s ns').2 s ns') ∨ ((setS n d s ns').1 = 9 ∧ SetNo n d (setS n d s ns').2 s ns ns') := by
  have hn0 := hd.n0
  have hs0 : 0 ≤ s := (h d.N (Mix.self n d)).1
  have hp := par_lt (s + 1)
  have hps := par_succ s
  have hpl := par_lt s
  have hidx : (s + 1).tmod 2 = ((par (s + 1) : Nat) : Int) := par_tmod (by omega)
  have hbl := slotB_len (s + 1) ns'
  unfold setS
  rw [hidx]
  by_cases he : d.err n ((par (s + 1) : Nat) : Int) 64 = 0
  · rw [if_pos he]
    have hw := write_N hd (b := slotB (s + 1) ns') hbl (show par (s + 1) < n by omega) he
    have hv : (d.write n ((par (s + 1) : Nat) : Int) (slotB (s + 1) ns')).V = d.V := write_V
    have hnx : SlotAt (d.write n ((par (s + 1) : Nat) : Int) (slotB (s + 1) ns')).N (s + 1) ns' := SlotAt.next (h d.N (Mix.self n d)) hI h4 hn (by rw [hw, if_pos rfl]) (by rw [hw, if_neg (by omega)])
    generalize d.write n ((par (s + 1) : Nat) : Int) (slotB (s + 1) ns') = d1 at hw hv hnx ⊢
    rw [flushE_two]
    cases hdn : d1.down
    · refine .inl ⟨by simp, flush_flat hdn, by rw [flush_N]; exact hnx, fun i hi => by rw [flush_N, hw, if_neg (by omega)]⟩
    · refine .inr ⟨by simp, ?_⟩
      rw [flush_down hdn]
      refine ⟨hdn, fun X hX => ?_, fun i hi => ⟨by rw [hw, if_neg (by omega)], by rw [hv]⟩⟩
      have hXo := hX (par (s + 1)) (by omega)
      have hXp := hX (par s) (by omega)
      rw [hw, if_neg (by omega), hv] at hXp
      rw [hw, if_pos rfl, hv] at hXo
      rcases hXo with hXo | hXo
      · right
        have hmix : Mix n d (fun i => if i = par s then X i else d.N i) := fun i hi => by
          by_cases hi2 : i = par s
          · simp only [hi2, if_true]; exact hXp
          · exact .inl (if_neg hi2)
        exact SlotAt.next (h _ hmix) hI h4 hn hXo (by simp)
      · left
        have hmix : Mix n d (fun i => if i < 2 then X i else d.N i) := fun i hi => by
          by_cases hi2 : i < 2
          · simp only [hi2, if_true]
            have : i = par s ∨ i = par (s + 1) := by omega
            rcases this with rfl | rfl
            · exact hXp
            · exact .inr hXo
          · exact .inl (if_neg hi2)
        exact (h _ hmix).congr (by simp) (by simp)
  · rw [if_neg he]
    have hdn : d.down = true := by
      rw [err_two (by omega)] at he
      cases hq : d.down
      · rw [hq] at he; simp at he
      · rfl
    refine .inr ⟨by rw [err_two (by omega), if_pos hdn], ?_⟩
    rw [write_same hbl he]
    exact ⟨hdn, fun X hX => .inl (h X hX), fun i _ => ⟨rfl, rfl⟩⟩
theorem set_up {n : Nat} {d : DevS} (hd : d.Ok n) (hu : Up d) {s : Int} (hs : 0 ≤ s) (ns : List Int) : (setS n d s ns).1 = 0 ∧ Up (setS n d s ns).2 := by
  have hn0 := hd.n0
  have hp := par_lt (s + 1)
  have hidx : (s + 1).tmod 2 = ((par (s + 1) : Nat) : Int) := par_tmod (by omega)
  unfold setS
  rw [hidx, if_pos (by rw [err_two (by omega), hu.1]; rfl)]
  have hw := hu.write (n := n) ((par (s + 1) : Nat) : Int) (slotB (s + 1) ns)
  exact ⟨by rw [flushE_two, hw.1]; rfl, hw.flush⟩
end Go.Proofs.YtpnhonhjheahhaaDoor

namespace Go.Proofs.YtpnhonhjheahhaaDoor
open Go.RowKit
def AreaIs (X : Nat → List UInt8) (i : Nat) (bs : List UInt8) : Prop := ∀ j, j < bs.length → (X (i + j / 64)).getD (j % 64) 0 = bs.getD j 0
theorem AreaIs.nil {X : Nat → List UInt8} {i : Nat} : AreaIs X i [] := fun j hj => by simp at hj
theorem getD_app {α : Type} (a b : List α) (j : Nat) (d : α) : (a ++ b).getD j d = if j < a.length then a.getD j d else b.getD (j - a.length) d := by
  split
  · rename_i h; rw [List.getD_eq_getElem?_getD, List.getElem?_append_left h, ← List.getD_eq_getElem?_getD]
  · rename_i h; rw [List.getD_eq_getElem?_getD, List.getElem?_append_right (by omega), ← List.getD_eq_getElem?_getD]
theorem AreaIs.left {X : Nat → List UInt8} {i : Nat} {a b : List UInt8} (h : AreaIs X i (a ++ b)) : AreaIs X i a := fun j hj => by
  rw [h j (by rw [List.length_append]; omega), getD_app, if_pos hj]
theorem AreaIs.congr {X Y : Nat → List UInt8} {i : Nat} {bs : List UInt8} (h : AreaIs X i bs) (he : ∀ j, j < bs.length → Y (i + j / 64) = X (i + j / 64)) : AreaIs Y i bs := fun j hj => by rw [he j hj]; exact h j hj
theorem secsC_get (X : Nat → List UInt8) (i : Nat) : ∀ M, (∀ k, k < M → (X (i + k)).length = 64) → ∀ j, j < 64 * M → (secsC X i M).getD j 0 = (X (i + j / 64)).getD (j % 64) 0
  | 0, _, j, hj => by omega
  | M + 1, h, j, hj => by
    have hl := secsC_len X i M (fun k hk => h k (by omega))
    rw [secsC_succ, getD_app, hl]
    split
    · rename_i hlt
      exact secsC_get X i M (fun k hk => h k (by omega)) j hlt
    · rename_i hge
      rw [show j / 64 = M by omega, show j - 64 * M = j % 64 by omega]
theorem list_ext_getD {a b : List UInt8} (hl : a.length = b.length) (h : ∀ j, j < a.length → a.getD j 0 = b.getD j 0) : a = b := by
  apply List.ext_getElem hl
  intro j h1 h2
  have := h j h1
  simpa [List.getD, List.getElem?_eq_getElem h1, List.getElem?_eq_getElem h2] using this
theorem getD_take (a : List UInt8) (m j : Nat) (hj : j < m) : (a.take m).getD j 0 = a.getD j 0 := by rw [List.getD_eq_getElem?_getD, List.getElem?_take_of_lt hj, ← List.getD_eq_getElem?_getD]
theorem areaC_eq {X : Nat → List UInt8} {i : Nat} {bs : List UInt8} (hX : ∀ k, k < (bs.length + 63) / 64 → (X (i + k)).length = 64) (h : AreaIs X i bs) : areaC X i bs.length = bs := by
  have hl := secsC_len X i ((bs.length + 63) / 64) hX
  unfold areaC
  refine list_ext_getD (by rw [List.length_take, hl]; omega) (fun j hj => ?_)
  rw [List.length_take, hl] at hj
  rw [getD_take _ _ _ (by omega), secsC_get X i _ hX j (by omega), h j (by omega)]
theorem padS_get (b : List UInt8) (j : Nat) (hj : j < 64) : (padS b).getD j 0 = b.getD j 0 := by
  unfold padS
  rw [getD_app, List.length_take]
  split
  · rw [getD_take _ _ _ hj]
  · rename_i h
    rw [List.getD_eq_getElem?_getD, List.getElem?_replicate, List.getD_eq_getElem?_getD, List.getElem?_eq_none (by omega)]
    split <;> rfl
theorem getD_drop (b : List UInt8) (m j : Nat) : (b.drop m).getD j 0 = b.getD (m + j) 0 := by rw [List.getD_eq_getElem?_getD, List.getElem?_drop, ← List.getD_eq_getElem?_getD]
/-! ### Bytes written sector by sector -/
structure WrOk (n : Nat) (d : DevS) (i : Nat) (b : List UInt8) (r : Int × DevS) : Prop where
  two : r.1 = 0 ∨ r.1 = 9 ∧ r.2.down = true
  V : r.2.V = d.V
  out : ∀ j, j < i ∨ i + (b.length + 63) / 64 ≤ j → r.2.N j = d.N j
  inn : ∀ j, i ≤ j → j < i + (b.length + 63) / 64 → r.2.N j = d.N j ∨ r.2.N j = padS (b.drop (64 * (j - i)))
  all : r.1 = 0 → ∀ j, i ≤ j → j < i + (b.length + 63) / 64 → r.2.N j = padS (b.drop (64 * (j - i)))
theorem wr_spec (n : Nat) : ∀ (m : Nat) (d : DevS) (i : Nat) (b : List UInt8), b.length ≤ m → d.Ok n → i + (b.length + 63) / 64 ≤ n → WrOk n d i b (wrO n d i b)
  | m, d, i, b, hm, hd, hn => by
    by_cases h0 : b.length = 0
    · have hb : b = [] := List.eq_nil_of_length_eq_zero h0
      subst hb
      rw [wrO_nil]
      exact ⟨.inl rfl, rfl, fun _ _ => rfl, fun j h1 h2 => by simp at h2; omega, fun _ j h1 h2 => by simp at h2; omega⟩
    · have hi : i < n := by omega
      have hpl := padS_len b
      by_cases he : d.err n (i : Int) 64 = 0
      · rw [wrO_ok h0 he]
        have hw := write_N hd hpl hi he
        have hv : (d.write n (i : Int) (padS b)).V = d.V := write_V
        match m, hm with
        | 0, hm => omega
        | m + 1, hm =>
          have hdl : (b.drop 64).length = b.length - 64 := List.length_drop
          have ih := wr_spec n m (d.write n (i : Int) (padS b)) (i + 1) (b.drop 64) (by omega) (hd.write _ _) (by omega)
          generalize d.write n (i : Int) (padS b) = d1 at hw hv ih ⊢
          generalize wrO n d1 (i + 1) (b.drop 64) = r at ih ⊢
          have hin : ∀ j, i + 1 ≤ j → (b.drop 64).drop (64 * (j - (i + 1))) = b.drop (64 * (j - i)) := fun j hj => by rw [List.drop_drop]; congr 1; omega
          refine ⟨ih.two, ih.V.trans hv, fun j hj => ?_, fun j h1 h2 => ?_, fun hr j h1 h2 => ?_⟩
          · rw [ih.out j (by omega), hw, if_neg (by omega)]
          · rcases Nat.lt_or_ge i j with h | h
            · rcases Nat.lt_or_ge j (i + 1 + ((b.drop 64).length + 63) / 64) with h' | h'
              · rcases ih.inn j h h' with k | k
                · left; rw [k, hw, if_neg (by omega)]
                · right; rw [k, hin j h]
              · left; rw [ih.out j (by omega), hw, if_neg (by omega)]
            · obtain rfl : i = j := by omega
              right
              rw [ih.out i (by omega), hw, if_pos rfl, Nat.sub_self, Nat.mul_zero, List.drop_zero]
          · rcases Nat.lt_or_ge i j with h | h
            · rw [ih.all hr j h (by omega), hin j h]
            · obtain rfl : i = j := by omega
              rw [ih.out i (by omega), hw, if_pos rfl, Nat.sub_self, Nat.mul_zero, List.drop_zero]
      · rw [wrO_no h0 he]
        have hdn : d.down = true := by
          rw [err_two hi] at he
          cases hq : d.down
          · rw [hq] at he; simp at he
          · rfl
        exact ⟨.inr ⟨by rw [err_two hi, if_pos hdn], hdn⟩, rfl, fun _ _ => rfl, fun _ _ _ => .inl rfl, fun h => absurd h he⟩
theorem wr_up (n : Nat) : ∀ (m : Nat) (d : DevS) (i : Nat) (b : List UInt8), b.length ≤ m → Up d → i + (b.length + 63) / 64 ≤ n → (wrO n d i b).1 = 0 ∧ Up (wrO n d i b).2
  | m, d, i, b, hm, hu, hn => by
    by_cases h0 : b.length = 0
    · have hb : b = [] := List.eq_nil_of_length_eq_zero h0
      subst hb
      rw [wrO_nil]
      exact ⟨rfl, hu⟩
    · have hi : i < n := by omega
      rw [wrO_ok h0 (by rw [err_two hi, hu.1]; rfl)]
      have hdl : (b.drop 64).length = b.length - 64 := List.length_drop
      match m, hm with
      | 0, hm => omega
      | m + 1, hm => exact wr_up n m _ (i + 1) (b.drop 64) (by omega) (hu.write _ _) (by omega)
/-- Written whole, it's there. -/
theorem WrOk.area {n : Nat} {d : DevS} {i : Nat} {b : List UInt8} {r : Int × DevS} (h : WrOk n d i b r) (he : r.1 = 0) : AreaIs r.2.N i b := fun j hj => by
  rw [h.all he (i + j / 64) (by omega) (by omega), padS_get _ _ (by omega), getD_drop]
  congr 1
  omega
/-! ### A record behind the others -/
theorem head_get {d : DevS} {used : Nat} {b : List UInt8} (hl : (d.N (2 + used / 64)).length = 64) (j : Nat) : (headW d used b).getD j 0 = if j < used % 64 then (d.N (2 + used / 64)).getD j 0 else b.getD (j - used % 64) 0 := by
  have hh : ((d.N (2 + used / 64)).take (used % 64)).length = used % 64 := by rw [List.length_take, hl]; omega
  unfold headW
  rw [getD_app, hh]
  split
  · rename_i h; rw [getD_take _ _ _ h]
  · rfl
theorem head_len {d : DevS} {used : Nat} {b : List UInt8} (hl : (d.N (2 + used / 64)).length = 64) : (headW d used b).length = used % 64 + b.length := by
  unfold headW
  rw [List.length_append, List.length_take, hl]; omega
/-- Whatever was written of a record behind these bytes: they stand. -/
theorem head_keeps {n : Nat} {d : DevS} {bs b : List UInt8} {r : Int × DevS} (hl : (d.N (2 + bs.length / 64)).length = 64) (h : WrOk n d (2 + bs.length / 64) (headW d bs.length b) r) (ha : Hold n d (AreaIs · 2 bs)) (hb : 2 + bs.length / 64 < n) : ∀ X, Mix n r.2 X → AreaIs X 2 bs := fun X hX j hj => by
  have hjn : 2 + j / 64 < n := by omega
  have hd : (d.N (2 + j / 64)).getD (j % 64) 0 = bs.getD j 0 := ha d.N (Mix.self n d) j hj
  have hv : (d.V (2 + j / 64)).getD (j % 64) 0 = bs.getD j 0 := ha d.V (fun i _ => .inr rfl) j hj
  rcases hX (2 + j / 64) hjn with hx | hx
  · rw [hx]
    rcases Nat.lt_or_ge (j / 64) (bs.length / 64) with hlt | hge
    · rw [h.out (2 + j / 64) (.inl (by omega))]; exact hd
    · have he : j / 64 = bs.length / 64 := by omega
      have hhl := head_len (b := b) hl
      rcases Nat.eq_zero_or_pos (headW d bs.length b).length with h0 | h0
      · rw [h.out (2 + j / 64) (.inr (by rw [h0]; omega))]; exact hd
      · rw [he]
        rcases h.inn (2 + bs.length / 64) (by omega) (by omega) with k | k
        · rw [k, ← he]; exact hd
        · rw [k, Nat.sub_self, Nat.mul_zero, List.drop_zero, padS_get _ _ (by omega), head_get hl, if_pos (by omega), ← he]; exact hd
  · rw [hx, h.V]; exact hv
theorem head_area {n : Nat} {d : DevS} {bs b : List UInt8} {r : Int × DevS} (hl : (d.N (2 + bs.length / 64)).length = 64) (h : WrOk n d (2 + bs.length / 64) (headW d bs.length b) r) (he : r.1 = 0) (ha : AreaIs d.N 2 bs) : AreaIs r.2.N 2 (bs ++ b) := fun j hj => by
  have hhl := head_len (b := b) hl
  have hA := h.area he
  rw [List.length_append] at hj
  rcases Nat.lt_or_ge (j / 64) (bs.length / 64) with hlt | hge
  · rw [h.out (2 + j / 64) (.inl (by omega)), ha j (by omega), getD_app, if_pos (by omega)]
  · have h1 := hA (j - 64 * (bs.length / 64)) (by omega)
    rw [show 2 + bs.length / 64 + (j - 64 * (bs.length / 64)) / 64 = 2 + j / 64 by omega, show (j - 64 * (bs.length / 64)) % 64 = j % 64 by omega, head_get hl] at h1
    rw [h1, getD_app]
    by_cases hjb : j < bs.length
    · rw [if_pos (by omega), if_pos hjb, ← ha j hjb]
      congr 1
      · congr 1; omega
      · omega
    · rw [if_neg (by omega), if_neg hjb]
      congr 1; omega
structure WrL (n : Nat) (d : DevS) (bs b : List UInt8) (r : Int × DevS) : Prop where
  ok : r.2.Ok n
  out : ∀ j, j < 2 ∨ 2 + (bs.length + b.length + 63) / 64 ≤ j → r.2.N j = d.N j ∧ (r.2.V j = d.V j ∨ r.2.V j = d.N j)
  cases : (r.1 = 0 ∧ Flat r.2 ∧ AreaIs r.2.N 2 (bs ++ b)) ∨ (r.1 = 9 ∧ r.2.down = true ∧ ∀ X, Mix n r.2 X → AreaIs X 2 bs)
theorem writeL_spec {n : Nat} {d : DevS} (hd : d.Ok n) {bs b : List UInt8} (ha : Hold n d (AreaIs · 2 bs)) (hb0 : 0 < b.length) (hn : 2 + (bs.length + b.length + 63) / 64 ≤ n) : WrL n d bs b (writeL n d bs.length b) := by
  have hl : (d.N (2 + bs.length / 64)).length = 64 := hd.now.get (hd.now.getD (by omega))
  have hhl := head_len (b := b) hl
  have hw := wr_spec n _ d (2 + bs.length / 64) (headW d bs.length b) (Nat.le_refl _) hd (by omega)
  have hk := head_keeps hl hw ha (by omega)
  have har := fun he => head_area hl hw he (ha d.N (Mix.self n d))
  have hok : (wrO n d (2 + bs.length / 64) (headW d bs.length b)).2.Ok n := wrO_okDev n _ d _ _ hd
  unfold writeL
  generalize wrO n d (2 + bs.length / 64) (headW d bs.length b) = r at hw hk har hok ⊢
  by_cases he : r.1 = 0
  · rw [if_pos he]
    cases hdn : r.2.down
    · refine ⟨hok.flush, fun j hj => ?_, .inl ⟨by rw [flushE_two, hdn]; rfl, flush_flat hdn, by rw [flush_N]; exact har he⟩⟩
      have hN : r.2.N j = d.N j := hw.out j (by omega)
      refine ⟨by rw [flush_N]; exact hN, .inr ?_⟩
      rw [(flush_flat hdn).V, flush_N]; exact hN
    · rw [flush_down hdn]
      exact ⟨hok, fun j hj => ⟨hw.out j (by omega), .inl (by rw [hw.V])⟩, .inr ⟨by rw [flushE_two, if_pos hdn], hdn, hk⟩⟩
  · rw [if_neg he]
    rcases hw.two with h | h
    · exact absurd h he
    · exact ⟨hok, fun j hj => ⟨hw.out j (by omega), .inl (by rw [hw.V])⟩, .inr ⟨h.1, h.2, hk⟩⟩
theorem writeL_up {n : Nat} {d : DevS} (hd : d.Ok n) (hu : Up d) (used : Nat) (b : List UInt8) (hn : 2 + (used + b.length + 63) / 64 ≤ n) (hb0 : 0 < b.length) : (writeL n d used b).1 = 0 ∧ Up (writeL n d used b).2 := by
  have hl : (d.N (2 + used / 64)).length = 64 := hd.now.get (hd.now.getD (by omega))
  have hhl := head_len (b := b) hl
  have hw := wr_up n _ d (2 + used / 64) (headW d used b) (Nat.le_refl _) hu (by omega)
  unfold writeL
  rw [if_pos hw.1]
  exact ⟨by rw [flushE_two, hw.2.1]; rfl, hw.2.flush⟩
end Go.Proofs.YtpnhonhjheahhaaDoor

namespace Go.Proofs.YtpnhonhjheahhaaDoor
open Go.RowKit
/-- A log's numbers and records, as a device holds them. -/
structure LogS where
  serial : Int
  area : Int
  length : Int
  recs : List (List UInt8)
def LogS.used (g : LogS) : Nat := (recsB g.recs).length
structure LogS.Fine (n : Nat) (g : LogS) : Prop where
  s1 : 1 ≤ g.serial
  s2 : g.serial ≤ 1000000000
  area : I64 g.area
  length : I64 g.length
  recs : ∀ b ∈ g.recs, okRec b
  fits : g.used ≤ ringN n
def LogAt (X : Nat → List UInt8) (g : LogS) : Prop := SlotAt X g.serial [g.area, g.length, (g.used : Int)] ∧ AreaIs X 2 (recsB g.recs)
def LogS.view (g : LogS) : OpenV := ⟨g.serial, g.area, g.length, g.used, g.recs⟩
def LogS.log (g : LogS) : LogV := ⟨g.area, g.length, g.used, g.serial, false, false⟩
theorem ringN_le {n : Nat} (h : n ≤ 4096) : ringN n ≤ 262144 := by unfold ringN; omega
theorem LogS.Fine.In {n : Nat} {g : LogS} (h : g.Fine n) (hn : n ≤ 4096) : g.log.In := ⟨h.area, h.length, by have := ringN_le hn; have := h.fits; show g.used ≤ _; omega, by have := h.s1; show 0 ≤ g.serial; omega, by have := h.s2; show g.serial ≤ _; omega⟩
theorem nums_ok {n : Nat} {g : LogS} (h : g.Fine n) (hn : n ≤ 4096) : ∀ x ∈ [g.area, g.length, (g.used : Int)], I64 x := by
  intro x hx
  have := ringN_le hn
  have := h.fits
  simp at hx
  rcases hx with rfl | rfl | rfl
  · exact h.area
  · exact h.length
  · exact ⟨by omega, by omega⟩
theorem LogAt.open_ {n : Nat} {X : Nat → List UInt8} {g : LogS} (h : LogAt X g) (hg : g.Fine n) (hX : ∀ i, i < n → (X i).length = 64) (hn : 64 ≤ n) : openL n X = some g.view := by
  have h1 := h.1.newest
  have hf := hg.fits
  have hs1 := hg.s1
  rw [openL_three h1, if_neg (by omega), Int.toNat_natCast]
  have hb : bytesC X g.used = recsB g.recs := by
    have := areaC_eq (X := X) (i := 2) (bs := recsB g.recs) (fun k hk => hX _ (by unfold ringN at hf; unfold LogS.used at hf; omega)) h.2
    exact this
  rw [hb, recsOf_B _ hg.recs]
  rfl
theorem LogAt.congr {n : Nat} {X Y : Nat → List UInt8} {g : LogS} (h : LogAt X g) (hg : g.Fine n) (hn : 64 ≤ n) (he : ∀ i, i < n / 2 → Y i = X i) : LogAt Y g := by
  have hf := hg.fits
  unfold ringN LogS.used at hf
  exact ⟨h.1.congr (he 0 (by omega)) (he 1 (by omega)), h.2.congr (fun j hj => he _ (by omega))⟩
/-! ### set -/
theorem setsL_spec {n : Nat} {d : DevS} (hd : d.Ok n) {g : LogS} (hg : g.Fine n) (hs : g.serial ≤ 999999999) {area length : Int} (ha : I64 area) (hl : I64 length) {bs : List (List UInt8)} (hbs : ∀ b ∈ bs, okRec b) (hf : (recsB bs).length ≤ ringN n)
    (h : Hold n d (LogAt · g)) (hA : Hold n d (AreaIs · 2 (recsB bs))) (L : LogV) (hL : L.serial = g.serial) :
    let r := setsL n d L area length (recsB bs).length
    r.2.1.Ok n ∧ (∀ i, 2 ≤ i → (r.2.1.N i = d.N i) ∧ (r.2.1.V i = d.V i ∨ r.2.1.V i = d.N i)) ∧
    ((r.1 = 0 ∧ Flat r.2.1 ∧ r.2.2 = { L with area := area, length := length, used := (recsB bs).length, serial := g.serial + 1 } ∧ LogAt r.2.1.N ⟨g.serial + 1, area, length, bs⟩) ∨
     (r.1 = 9 ∧ r.2.1.down = true ∧ r.2.2 = { L with sbad := true } ∧ ∀ X, Mix n r.2.1 X → LogAt X g ∨ LogAt X ⟨g.serial + 1, area, length, bs⟩)) := by
  have hn0 := hd.n0
  have hn1 := hd.n1
  have hr := ringN_le hn1
  have hsp := set_spec (s := g.serial) (ns := [g.area, g.length, (g.used : Int)]) (ns' := [area, length, ((recsB bs).length : Int)]) hd (fun X hX => (h X hX).1) (by omega) (by simp) (by
    intro x hx
    simp at hx
    rcases hx with rfl | rfl | rfl
    · exact ha
    · exact hl
    · exact ⟨by omega, by omega⟩)
  have hok := setS_ok hd g.serial [area, length, ((recsB bs).length : Int)]
  unfold setsL
  rw [hL]
  generalize setS n d g.serial [area, length, ((recsB bs).length : Int)] = r at hsp hok
  have hfit : ∀ j, j < (recsB bs).length → 2 + j / 64 < n := fun j hj => by unfold ringN at hf; omega
  rcases hsp with ⟨he, hs⟩ | ⟨he, hs⟩
  · simp only [he, if_true]
    refine ⟨hok, fun i hi => ⟨hs.same i hi, .inr (by rw [hs.flat.V]; exact hs.same i hi)⟩, .inl ⟨by first | rfl | trivial, hs.flat, by first | rfl | trivial, hs.slot, (hA d.N (Mix.self n d)).congr (fun j hj => hs.same _ (by omega))⟩⟩
  · rw [if_neg (by rw [he]; decide)]
    refine ⟨hok, fun i hi => ⟨(hs.same i hi).1, .inl (hs.same i hi).2⟩, .inr ⟨he, hs.down, rfl, fun X hX => ?_⟩⟩
    have hmix : ∀ i, 2 ≤ i → i < n → X i = d.N i ∨ X i = d.V i := fun i h2 hi => by
      rcases hX i hi with k | k
      · exact .inl (k.trans (hs.same i h2).1)
      · exact .inr (k.trans (hs.same i h2).2)
    have hM : Mix n d (fun i => if i < 2 then d.N i else X i) := fun i hi => by
      by_cases h2 : i < 2
      · exact .inl (if_pos h2)
      · rcases hmix i (by omega) hi with k | k
        · exact .inl ((if_neg h2).trans k)
        · exact .inr ((if_neg h2).trans k)
    rcases hs.slot X hX with k | k
    · exact .inl ⟨k, (h _ hM).2.congr (fun j hj => by simp only [show ¬ (2 + j / 64 < 2) by omega, if_false])⟩
    · exact .inr ⟨k, (hA _ hM).congr (fun j hj => by simp only [show ¬ (2 + j / 64 < 2) by omega, if_false])⟩
theorem setsL_up {n : Nat} {d : DevS} (hd : d.Ok n) (hu : Up d) (L : LogV) (hs : 0 ≤ L.serial) (area length : Int) (used : Nat) : (setsL n d L area length used).1 = 0 ∧ Up (setsL n d L area length used).2.1 := by
  have h := set_up (ns := [area, length, (used : Int)]) hd hu hs
  unfold setsL
  rw [if_pos h.1]
  exact ⟨rfl, h.2⟩
/-! ### reset -/
theorem resetL_spec {n : Nat} {d : DevS} (hd : d.Ok n) {g : LogS} (hg : g.Fine n) (hs : g.serial ≤ 999999999) {area length : Int} (ha : I64 area) (hl : I64 length) (h : Hold n d (LogAt · g)) :
    let r := resetL n d g.log area length
    r.2.1.Ok n ∧ (∀ i, 2 ≤ i → (r.2.1.N i = d.N i) ∧ (r.2.1.V i = d.V i ∨ r.2.1.V i = d.N i)) ∧
    ((r.1 = 0 ∧ Flat r.2.1 ∧ r.2.2 = LogS.log ⟨g.serial + 1, area, length, []⟩ ∧ LogAt r.2.1.N ⟨g.serial + 1, area, length, []⟩) ∨
     (r.1 = 9 ∧ r.2.1.down = true ∧ r.2.2.lbad = true ∧ ∀ X, Mix n r.2.1 X → LogAt X g ∨ LogAt X ⟨g.serial + 1, area, length, []⟩)) := by
  have hsp := setsL_spec (bs := []) hd hg hs ha hl (fun b hb => by cases hb) (by simp [recsB]) h (fun _ _ => AreaIs.nil) g.log rfl
  rw [show (recsB []).length = 0 from rfl] at hsp
  unfold resetL
  generalize setsL n d g.log area length 0 = r at hsp ⊢
  obtain ⟨h1, h2, h3⟩ := hsp
  refine ⟨h1, h2, ?_⟩
  rcases h3 with ⟨he, hf, hL, hA⟩ | ⟨he, hdn, hL, hA⟩
  · exact .inl ⟨he, hf, by rw [hL]; simp [he, LogS.log, LogS.used, recsB], hA⟩
  · exact .inr ⟨he, hdn, by simp [he], hA⟩
theorem resetL_up {n : Nat} {d : DevS} (hd : d.Ok n) (hu : Up d) (L : LogV) (hs : 0 ≤ L.serial) (area length : Int) : (resetL n d L area length).1 = 0 ∧ Up (resetL n d L area length).2.1 := setsL_up hd hu L hs area length 0
/-! ### append -/
theorem recsB_len_app (l : List (List UInt8)) (b : List UInt8) : (recsB (l ++ [b])).length = (recsB l).length + b.length + 2 := by rw [recsB_app, recsB_one, List.length_append, recB_len]; omega
structure AppOut (n : Nat) (d : DevS) (g : LogS) (b : List UInt8) (r : Int × DevS × LogV) : Prop where
  ok : r.2.1.Ok n
  high : ∀ i, n / 2 ≤ i → (r.2.1.N i = d.N i) ∧ (r.2.1.V i = d.V i ∨ r.2.1.V i = d.N i)
  cases : (r.1 = 1 ∧ (b.length < 1 ∨ 1000 < b.length) ∧ r.2.1 = d ∧ r.2.2 = g.log) ∨
    (r.1 = 5 ∧ okRec b ∧ ringN n < g.used + b.length + 2 ∧ r.2.1 = d ∧ r.2.2 = g.log) ∨
    (r.1 = 0 ∧ okRec b ∧ g.used + b.length + 2 ≤ ringN n ∧ Flat r.2.1 ∧ r.2.2 = LogS.log ⟨g.serial + 1, g.area, g.length, g.recs ++ [b]⟩ ∧ LogAt r.2.1.N ⟨g.serial + 1, g.area, g.length, g.recs ++ [b]⟩) ∨
    (r.1 = 9 ∧ okRec b ∧ g.used + b.length + 2 ≤ ringN n ∧ r.2.1.down = true ∧ r.2.2.lbad = true ∧ ∀ X, Mix n r.2.1 X → LogAt X g ∨ LogAt X ⟨g.serial + 1, g.area, g.length, g.recs ++ [b]⟩)
theorem appendL_spec {n : Nat} {d : DevS} (hd : d.Ok n) {g : LogS} (hg : g.Fine n) (hs : g.serial ≤ 999999999) (h : Hold n d (LogAt · g)) (b : List UInt8) : AppOut n d g b (appendL n d g.log b) := by
  have hn0 := hd.n0
  unfold appendL
  by_cases h1 : b.length < 1 ∨ 1000 < b.length
  · rw [if_pos h1]
    exact ⟨hd, fun _ _ => ⟨rfl, .inl rfl⟩, .inl ⟨rfl, h1, rfl, rfl⟩⟩
  · have hb : okRec b := ⟨by omega, by omega⟩
    rw [if_neg h1]
    by_cases h2 : (ringN n : Int) - (g.log.used : Int) < ((b.length + 2 : Nat) : Int)
    · rw [if_pos h2]
      have : g.log.used = g.used := rfl
      exact ⟨hd, fun _ _ => ⟨rfl, .inl rfl⟩, .inr (.inl ⟨rfl, hb, by omega, rfl, rfl⟩)⟩
    · rw [if_neg h2]
      have hu : g.log.used = (recsB g.recs).length := rfl
      have hu2 : g.used = (recsB g.recs).length := rfl
      have hfit : g.used + b.length + 2 ≤ ringN n := by rw [hu] at h2; rw [hu2]; omega
      have hring : 2 + (g.used + b.length + 2 + 63) / 64 ≤ n / 2 := by unfold ringN at hfit; omega
      have hrl := recB_len b
      have hw := writeL_spec (bs := recsB g.recs) (b := recB b) hd (fun X hX => (h X hX).2) (by omega) (by omega)
      rw [hu]
      generalize writeL n d (recsB g.recs).length (recB b) = w at hw ⊢
      obtain ⟨e1, d1⟩ := w
      have hwo := hw.out
      have hwk := hw.ok
      dsimp only at hwo hwk ⊢
      rcases hw.cases with ⟨he, hfl, hA⟩ | ⟨he, hdn, hA⟩
      · dsimp only at he hfl hA
        rw [if_pos he]
        have hA2 : AreaIs d1.N 2 (recsB (g.recs ++ [b])) := by rw [recsB_app, recsB_one]; exact hA
        have hlog1 : LogAt d1.N g := ⟨(h d.N (Mix.self n d)).1.congr (hwo 0 (by omega)).1 (hwo 1 (by omega)).1, hA.left⟩
        have hmixf : ∀ X, Mix n d1 X → ∀ i, i < n → X i = d1.N i := fun X hX i hi => Mix.flat hX hfl hi
        have hold1 : Hold n d1 (LogAt · g) := fun X hX => hlog1.congr hg hn0 (fun i hi => hmixf X hX i (by omega))
        have hold2 : Hold n d1 (AreaIs · 2 (recsB (g.recs ++ [b]))) := fun X hX => hA2.congr (fun j hj => hmixf X hX _ (by rw [recsB_len_app] at hj; omega))
        have hsp := setsL_spec (bs := g.recs ++ [b]) (area := g.area) (length := g.length) hwk hg hs hg.area hg.length (fun x hx => by
          rcases List.mem_append.1 hx with hx | hx
          · exact hg.recs x hx
          · simp at hx; subst hx; exact hb) (by rw [recsB_len_app]; omega) hold1 hold2 g.log rfl
        rw [recsB_len_app] at hsp
        have ea : g.log.area = g.area := rfl
        have el : g.log.length = g.length := rfl
        rw [ea, el]
        generalize setsL n d1 g.log g.area g.length ((recsB g.recs).length + b.length + 2) = r at hsp ⊢
        obtain ⟨h3, h4, h5⟩ := hsp
        refine ⟨h3, fun i hi => ?_, ?_⟩
        · have h6 := h4 i (by omega)
          have h7 := hwo i (by omega)
          refine ⟨h6.1.trans h7.1, ?_⟩
          rcases h6.2 with k | k
          · rcases h7.2 with k2 | k2
            · exact .inl (k.trans k2)
            · exact .inr (k.trans k2)
          · exact .inr (k.trans h7.1)
        · rcases h5 with ⟨he2, hf2, hL2, hA3⟩ | ⟨he2, hd2, hL2, hA3⟩
          · exact .inr (.inr (.inl ⟨he2, hb, hfit, hf2, by rw [hL2]; simp [he2, LogS.log, LogS.used, recsB_len_app], hA3⟩))
          · exact .inr (.inr (.inr ⟨he2, hb, hfit, hd2, by simp [he2], hA3⟩))
      · dsimp only at he hdn hA
        rw [if_neg (by rw [he]; decide)]
        refine ⟨hwk, fun i hi => hwo i (by omega), .inr (.inr (.inr ⟨he, hb, hfit, hdn, rfl, fun X hX => .inl ⟨?_, hA X hX⟩⟩))⟩
        have hM : Mix n d (fun i => if i < 2 then X i else d.N i) := fun i hi => by
          by_cases h2 : i < 2
          · have h6 := hwo i (.inl h2)
            rcases hX i hi with k | k
            · exact .inl ((if_pos h2).trans (k.trans h6.1))
            · rcases h6.2 with k2 | k2
              · exact .inr ((if_pos h2).trans (k.trans k2))
              · exact .inl ((if_pos h2).trans (k.trans k2))
          · exact .inl (if_neg h2)
        exact (h _ hM).1.congr (by simp) (by simp)
end Go.Proofs.YtpnhonhjheahhaaDoor

namespace Go.Proofs.YtpnhonhjheahhaaDoor
open Go.RowKit
theorem hold_flat {n : Nat} {d : DevS} {P : (Nat → List UInt8) → Prop} (hf : Flat d) (h : P d.N) (hc : ∀ X, (∀ i, i < n → X i = d.N i) → P d.N → P X) : Hold n d P := fun X hX => hc X (fun i hi => Mix.flat hX hf hi) h
theorem hold_slot {n : Nat} {d : DevS} (hf : Flat d) (hn : 2 ≤ n) {s : Int} {ns : List Int} (h : SlotAt d.N s ns) : Hold n d (SlotAt · s ns) := hold_flat hf h (fun _ hX h => h.congr (hX 0 (by omega)) (hX 1 (by omega)))
theorem hold_log {n : Nat} {d : DevS} (hf : Flat d) (hn : 64 ≤ n) {g : LogS} (hg : g.Fine n) (h : LogAt d.N g) : Hold n d (LogAt · g) := hold_flat hf h (fun _ hX h => h.congr hg hn (fun i hi => hX i (by omega)))
theorem hold_area {n : Nat} {d : DevS} (hf : Flat d) {i : Nat} {bs : List UInt8} (hb : ∀ j, j < bs.length → i + j / 64 < n) (h : AreaIs d.N i bs) : Hold n d (AreaIs · i bs) := hold_flat hf h (fun _ hX h => h.congr (fun j hj => hX _ (hb j hj)))
/-- What a crash leaves holds what was held whatever it keeps. -/
theorem Hold.crash {n : Nat} {d : DevS} (hd : d.Ok n) {P : (Nat → List UInt8) → Prop} (h : Hold n d P) (keep : List Bool) : P (d.crash n keep).N := h _ (crash_mix hd keep)
theorem ok_len {n : Nat} {d : DevS} (hd : d.Ok n) {i : Nat} (hi : i < n) : (d.N i).length = 64 := hd.now.get (hd.now.getD hi)
theorem zero_slot (n : Nat) (hn : 2 ≤ n) : SlotAt (DevS.zero n).N 0 [] := by
  have h : ∀ i, i < n → (DevS.zero n).N i = zSec := fun i hi => by
    show (List.replicate n zSec).getD i [] = zSec
    simp [List.getD, hi]
  exact SlotAt.zero (h 0 (by omega)) (h 1 (by omega))
theorem zero_flat (n : Nat) : Flat (DevS.zero n) := rfl
theorem zero_up (n : Nat) : Up (DevS.zero n) := ⟨rfl, rfl⟩
/-! ### made -/
theorem make_spec {n : Nat} {d : DevS} (hd : d.Ok n) {s : Int} {ns : List Int} (hs : s ≤ 999999999) (h : Hold n d (SlotAt · s ns)) :
    let r := setS n d s [0, 0, 0]
    r.2.Ok n ∧ ((r.1 = 0 ∧ Flat r.2 ∧ LogAt r.2.N ⟨s + 1, 0, 0, []⟩) ∨ (r.1 = 9 ∧ r.2.down = true ∧ (∀ X, Mix n r.2 X → SlotAt X s ns ∨ LogAt X ⟨s + 1, 0, 0, []⟩) ∧ ∀ i, 2 ≤ i → r.2.N i = d.N i ∧ r.2.V i = d.V i)) := by
  have hsp := set_spec (ns' := [0, 0, 0]) hd h (by omega) (by decide) (by intro x hx; simp at hx; subst hx; exact ⟨by decide, by decide⟩)
  have hok := setS_ok hd s [0, 0, 0]
  refine ⟨hok, ?_⟩
  rcases hsp with ⟨he, hs⟩ | ⟨he, hs⟩
  · exact .inl ⟨he, hs.flat, hs.slot, AreaIs.nil⟩
  · exact .inr ⟨he, hs.down, fun X hX => (hs.slot X hX).imp id (fun k => ⟨k, AreaIs.nil⟩), hs.same⟩
theorem fine_new (n : Nat) {s : Int} (h0 : 0 ≤ s) (h1 : s ≤ 999999999) {a l : Int} (ha : I64 a) (hl : I64 l) : LogS.Fine n ⟨s + 1, a, l, []⟩ := ⟨by show 1 ≤ s + 1; omega, by show s + 1 ≤ _; omega, ha, hl, fun b hb => (by cases hb), Nat.zero_le _⟩
theorem Fine.app {n : Nat} {g : LogS} (hg : g.Fine n) {b : List UInt8} (hb : okRec b) (hs : g.serial ≤ 999999999) (hf : g.used + b.length + 2 ≤ ringN n) : LogS.Fine n ⟨g.serial + 1, g.area, g.length, g.recs ++ [b]⟩ :=
  ⟨by have := hg.s1; show 1 ≤ g.serial + 1; omega, by show g.serial + 1 ≤ _; omega, hg.area, hg.length, fun x hx => by
    rcases List.mem_append.1 hx with hx | hx
    · exact hg.recs x hx
    · simp at hx; subst hx; exact hb, by show (recsB (g.recs ++ [b])).length ≤ _; rw [recsB_len_app]; unfold LogS.used at hf; omega⟩
theorem Fine.reset {n : Nat} {g : LogS} (hg : g.Fine n) (hs : g.serial ≤ 999999999) {a l : Int} (ha : I64 a) (hl : I64 l) : LogS.Fine n ⟨g.serial + 1, a, l, []⟩ := fine_new n (by have := hg.s1; omega) hs ha hl
/-! ### a device that is not fused -/
theorem appendL_up {n : Nat} {d : DevS} (hd : d.Ok n) (hu : Up d) {g : LogS} (hg : g.Fine n) (b : List UInt8) (hb : okRec b) (hf : g.used + b.length + 2 ≤ ringN n) : (appendL n d g.log b).1 = 0 ∧ Up (appendL n d g.log b).2.1 := by
  have hn0 := hd.n0
  have hw := writeL_up hd hu g.used (recB b) (by rw [recB_len]; unfold ringN at hf; omega) (by rw [recB_len]; omega)
  have hwk := writeL_dev hd g.used (recB b)
  have hlu : g.log.used = g.used := rfl
  unfold appendL
  rw [if_neg (by have := hb.1; have := hb.2; omega), if_neg (by rw [hlu]; omega), hlu, if_pos hw.1]
  exact setsL_up hwk hw.2 g.log (by have := hg.s1; show 0 ≤ g.serial; omega) _ _ _
theorem appended {n : Nat} {d : DevS} {g : LogS} {b : List UInt8} {r : Int × DevS × LogV} (h : AppOut n d g b r) (he : r.1 = 0) : Flat r.2.1 ∧ r.2.2 = LogS.log ⟨g.serial + 1, g.area, g.length, g.recs ++ [b]⟩ ∧ LogAt r.2.1.N ⟨g.serial + 1, g.area, g.length, g.recs ++ [b]⟩ ∧ okRec b ∧ g.used + b.length + 2 ≤ ringN n := by
  rcases h.cases with ⟨h1, _⟩ | ⟨h1, _⟩ | ⟨_, h2, h3, h4, h5, h6⟩ | ⟨h1, _⟩
  · rw [he] at h1; cases h1
  · rw [he] at h1; cases h1
  · exact ⟨h4, h5, h6, h2, h3⟩
  · rw [he] at h1; cases h1
/-! ### a text -/
structure PutOut (n : Nat) (d : DevS) (g : LogS) (t : List UInt8) (r : Int × DevS × LogV) : Prop where
  ok : r.2.1.Ok n
  other : ∀ j, 2 ≤ j → (j < beginN n (putTo g.log) ∨ beginN n (putTo g.log) + n / 4 ≤ j) → r.2.1.N j = d.N j ∧ (r.2.1.V j = d.V j ∨ r.2.1.V j = d.N j)
  cases : (r.1 = 11 ∧ mostN n < t.length ∧ r.2.1 = d ∧ r.2.2 = g.log) ∨
    (r.1 = 0 ∧ t.length ≤ mostN n ∧ Flat r.2.1 ∧ r.2.2 = LogS.log ⟨g.serial + 1, putTo g.log, t.length, []⟩ ∧ LogAt r.2.1.N ⟨g.serial + 1, putTo g.log, t.length, []⟩ ∧ AreaIs r.2.1.N (beginN n (putTo g.log)) t) ∨
    (r.1 = 9 ∧ t.length ≤ mostN n ∧ r.2.1.down = true ∧ ∀ X, Mix n r.2.1 X → LogAt X g ∨ (LogAt X ⟨g.serial + 1, putTo g.log, t.length, []⟩ ∧ AreaIs X (beginN n (putTo g.log)) t))
theorem putTo_two (L : LogV) : putTo L = 1 ∨ putTo L = 2 := by unfold putTo; split <;> simp
theorem putL_spec {n : Nat} {d : DevS} (hd : d.Ok n) {g : LogS} (hg : g.Fine n) (hs : g.serial ≤ 999999999) (h : Hold n d (LogAt · g)) (t : List UInt8) (ht : t.length ≤ 1000000) : PutOut n d g t (putL n d g.log t) := by
  have hn0 := hd.n0
  have hn1 := hd.n1
  have hto := putTo_two g.log
  unfold putL
  by_cases h1 : mostN n < t.length
  · rw [if_pos h1]
    exact ⟨hd, fun _ _ _ => ⟨rfl, .inl rfl⟩, .inl ⟨rfl, h1, rfl, rfl⟩⟩
  · rw [if_neg h1]
    have hfit : beginN n (putTo g.log) + (t.length + 63) / 64 ≤ beginN n (putTo g.log) + n / 4 := by unfold mostN at h1; omega
    have hend : beginN n (putTo g.log) + n / 4 ≤ n := by unfold beginN; rcases hto with k | k <;> rw [k] <;> omega
    have hbeg : n / 2 ≤ beginN n (putTo g.log) := by unfold beginN; omega
    have hw := wr_spec n _ d (beginN n (putTo g.log)) t (Nat.le_refl _) hd (by omega)
    have hwk : (wrO n d (beginN n (putTo g.log)) t).2.Ok n := wrO_okDev n _ d _ _ hd
    generalize wrO n d (beginN n (putTo g.log)) t = w at hw hwk ⊢
    obtain ⟨e1, d1⟩ := w
    have hwo := hw.out
    have hwv := hw.V
    dsimp only at hwo hwv hwk ⊢
    have hold1 : Hold n d1 (LogAt · g) := fun X hX => by
      have hM : Mix n d (fun i => if i < n / 2 then X i else d.N i) := fun i hi => by
        by_cases h2 : i < n / 2
        · rcases hX i hi with k | k
          · exact .inl ((if_pos h2).trans (k.trans (hwo i (by omega))))
          · exact .inr ((if_pos h2).trans (k.trans (by rw [hwv])))
        · exact .inl (if_neg h2)
      exact (h _ hM).congr hg hn0 (fun i hi => by simp only [hi, if_true])
    have hother : ∀ j, 2 ≤ j → (j < beginN n (putTo g.log) ∨ beginN n (putTo g.log) + n / 4 ≤ j) → d1.N j = d.N j ∧ (d1.V j = d.V j ∨ d1.V j = d.N j) := fun j _ hj => ⟨hwo j (by omega), .inl (by rw [hwv])⟩
    by_cases he : e1 = 0
    · rw [if_neg (fun k => k he)]
      have hA : AreaIs d1.N (beginN n (putTo g.log)) t := hw.area he
      cases hdn : d1.down
      · have hfe : d1.flushE = 0 := by rw [flushE_two, hdn]; rfl
        rw [if_neg (fun k => k hfe)]
        have hff := flush_flat (n := n) hdn
        have hlog2 : LogAt (d1.flush n).N g := by rw [flush_N]; exact hold1 d1.N (Mix.self n d1)
        have hA2 : AreaIs (d1.flush n).N (beginN n (putTo g.log)) t := by rw [flush_N]; exact hA
        have hsp := resetL_spec (area := (putTo g.log : Int)) (length := (t.length : Int)) hwk.flush hg hs ⟨by omega, by omega⟩ ⟨by omega, by omega⟩ (hold_log hff hn0 hg hlog2)
        have hN2 : (d1.flush n).N = d1.N := flush_N
        generalize resetL n (d1.flush n) g.log (putTo g.log : Int) (t.length : Int) = r at hsp ⊢
        obtain ⟨h3, h4, h5⟩ := hsp
        refine ⟨h3, fun j hj hjo => ?_, ?_⟩
        · have h6 := h4 j hj
          have h7 := (hother j hj hjo).1
          refine ⟨h6.1.trans (by rw [hN2]; exact h7), .inr ?_⟩
          rcases h6.2 with k | k
          · rw [k, hff.V, hN2]; exact h7
          · rw [k, hN2]; exact h7
        · rcases h5 with ⟨he2, hf2, hL2, hA3⟩ | ⟨he2, hd2, _, hA3⟩
          · exact .inr (.inl ⟨he2, by omega, hf2, hL2, hA3, hA2.congr (fun j hj => (h4 _ (by omega)).1)⟩)
          · refine .inr (.inr ⟨he2, by omega, hd2, fun X hX => (hA3 X hX).imp id (fun k => ⟨k, hA2.congr (fun j hj => ?_)⟩)⟩)
            have h6 := h4 (beginN n (putTo g.log) + j / 64) (by omega)
            rcases hX (beginN n (putTo g.log) + j / 64) (by omega) with k | k
            · rw [k]; exact h6.1
            · rcases h6.2 with k2 | k2
              · rw [k, k2, hff.V]
              · rw [k, k2]
      · have hfe : d1.flushE ≠ 0 := by rw [flushE_two, if_pos hdn]; decide
        rw [if_pos hfe, flush_down hdn]
        exact ⟨hwk, hother, .inr (.inr ⟨by rw [flushE_two, if_pos hdn], by omega, hdn, fun X hX => .inl (hold1 X hX)⟩)⟩
    · rw [if_pos he]
      rcases hw.two with k | ⟨k, hdn⟩
      · exact absurd k he
      · exact ⟨hwk, hother, .inr (.inr ⟨k, by omega, hdn, fun X hX => .inl (hold1 X hX)⟩)⟩
theorem putL_up {n : Nat} {d : DevS} (hd : d.Ok n) (hu : Up d) {g : LogS} (hg : g.Fine n) (t : List UInt8) (ht : t.length ≤ mostN n) : (putL n d g.log t).1 = 0 ∧ Up (putL n d g.log t).2.1 := by
  have hn0 := hd.n0
  have hto := putTo_two g.log
  have hend : beginN n (putTo g.log) + n / 4 ≤ n := by unfold beginN; rcases hto with k | k <;> rw [k] <;> omega
  have hw := wr_up n _ d (beginN n (putTo g.log)) t (Nat.le_refl _) hu (by unfold mostN at ht; omega)
  have hwk : (wrO n d (beginN n (putTo g.log)) t).2.Ok n := wrO_okDev n _ d _ _ hd
  unfold putL
  rw [if_neg (by omega), if_neg (fun k => k hw.1), if_neg (fun k => k (by rw [flushE_two, hw.2.1]; rfl))]
  exact resetL_up hwk.flush hw.2.flush g.log (by have := hg.s1; show 0 ≤ g.serial; omega) _ _
theorem getL_none {n : Nat} {X : Nat → List UInt8} {L : LogV} (h : L.area = 0) : getL n X L = (0, []) := by rw [getL, if_pos h]
theorem getL_area {n : Nat} {X : Nat → List UInt8} {L : LogV} {a : Nat} {t : List UInt8} (ha : L.area = (a : Int)) (ha2 : a = 1 ∨ a = 2) (hl : L.length = (t.length : Int)) (hm : t.length ≤ mostN n) (hX : ∀ i, i < n → (X i).length = 64) (h : AreaIs X (beginN n a) t) : getL n X L = (0, t) := by
  have hend : beginN n a + n / 4 ≤ n := by unfold beginN; rcases ha2 with k | k <;> rw [k] <;> omega
  rw [getL, if_neg (by omega), if_neg (by omega), ha, hl, Int.toNat_natCast, Int.toNat_natCast, areaC_eq (fun k hk => hX _ (by unfold mostN at hm; omega)) h]
end Go.Proofs.YtpnhonhjheahhaaDoor
