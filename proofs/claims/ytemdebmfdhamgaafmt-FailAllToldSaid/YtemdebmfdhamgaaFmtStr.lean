/-
  READS THROUGH ANY SLICE; bytes to strings; strings compared. No program is named here.
-/
import Derived.Test.YtemdebmfdhamgaaFmtApp
import Derived.Laws.BytesArg
import Derived.Laws.IdiomStrings
namespace Go.Proofs.YtemdebmfdhamgaaFmt
open Go.RowKit

def u8v (b : UInt8) : Value := .int .u8 (b.toNat : Int)
def strV (l : List UInt8) : Value := .string ⟨l.toArray⟩
theorem u8v_one (b : UInt8) : (u8v b).oneCell' = true := rfl
theorem u8vs_one (l : List UInt8) : ∀ v ∈ l.map u8v, v.oneCell' = true := by
  intro v hv
  obtain ⟨b, _, rfl⟩ := List.mem_map.1 hv
  rfl

section
variable {P : Program} {n : Nat} {c : Ctx} {Q : Exit → Act → World → Prop} {e : Env} {h : Heap} {ops : Array Oper} {rest : List Oper} {d ty : Nat} {pos : String} {af : Array Edge}

theorem run_bytes_rd {w : World} {src dst el : TypeId} {A : Option Addr} {l cp : Nat} {bs : List UInt8} (hs : P.underlying src = some (.slice el)) (he : P.underlying el = some (.int .u8)) (hd : P.underlying dst = some .string)
    (k : RdAt c h A (bs.map u8v)) (s : St c h w) (hl : l = bs.length) : (convert src dst (.slice A l cp)).run P w = .ok (strV bs) w := by
  subst hl
  rcases k with hn | ⟨a, rfl, hx⟩
  · have : bs = [] := by simpa using hn
    subst this
    rw [run_convert_bytes_string w src dst el A _ cp hs he hd]
    cases A with
    | none => simp [Conv.bytesToString, strV]; rfl
    | some a =>
      have hl0 := run_loadCells_list (P := P) w a [] (fun j v hj => by simp at hj)
      have := run_bytesToString (P := P) w a 0 cp [] (by simpa using hl0)
      exact this
  · exact run_convert_bytes_back w src dst el a cp bs hs he hd (fun j hj => hx w s j _ (by simp [hj, u8v]))

theorem LW.bytesStr {src dst el : Nat} {x : Operand} {A : Option Addr} {l cp : Nat} (bs : List UInt8) (hx : e.ev x = some (.slice A l cp)) (hs : P.underlying src = some (.slice el)) (he : P.underlying el = some (.int .u8)) (hd' : P.underlying dst = some .string)
    (k : RdAt c h A (bs.map u8v)) (hl : l = bs.length) (hd : Nat.blt d n = true) (kk : LW P n c ops Q rest ((d, strV bs) :: e) h) : LW P n c ops Q (⟨some d, .convert src dst x, ty, pos, af, none⟩ :: rest) e h :=
  LW.val _ hd (fun a w hf s => by simp [execOp, hf.eval hx, run_bytes_rd hs he hd' k s hl]) kk

/-- An element's address, in whatever slice. -/
theorem LW.indexAt {t el sz : Nat} {x y : Operand} {a : Addr} {l cp : Nat} {ki : IntKind} {p : Int} (hx : e.ev x = some (.slice (some a) l cp)) (hy : e.ev y = some (.int ki p)) (ht : P.underlying t = some (.slice el))
    (hsz : (P.info? el).map (·.size) = some sz) (h0 : 0 ≤ p) (h1 : p < (l : Int)) (hd : Nat.blt d n = true) (k : LW P n c ops Q rest ((d, .pointer (some (a.add (p.toNat * sz)))) :: e) h) :
    LW P n c ops Q (⟨some d, .indexAddr t x y, ty, pos, af, none⟩ :: rest) e h :=
  LW.val _ hd (fun a w hf _ => by
    obtain ⟨i, hi, rfl⟩ := Option.map_eq_some_iff.1 hsz
    simp [execOp, hf.eval hx, hf.eval hy, Instr.indexAt, run_underlying ht, asIntOf, h0, h1, sizeOf, typeInfo, hi]) k
theorem LW.loadRd {t : Nat} {x : Operand} {a : Addr} {j : Nat} {v : Value} {xs : List Value} (hx : e.ev x = some (.pointer (some (a.add j)))) (hr : RdAt c h (some a) xs) (hv : xs[j]? = some v) (ht : oneB P t = true)
    (hd : Nat.blt d n = true) (k : LW P n c ops Q rest ((d, v) :: e) h) : LW P n c ops Q (⟨some d, .load t x, ty, pos, af, none⟩ :: rest) e h :=
  LW.val v hd (fun a w hf s => by
    rcases hr with rfl | ⟨a', ha, hr⟩
    · simp at hv
    · cases ha
      simp [execOp, hf.eval hx, run_loadAt_one ht (hr w s j v hv)]) k

theorem Yl.indexAt {S : World → Prop} {t el sz : Nat} {x y : Operand} {a : Addr} {l cp : Nat} {ki : IntKind} {p : Int} (hx : e.ev x = some (.slice (some a) l cp)) (hy : e.ev y = some (.int ki p)) (ht : P.underlying t = some (.slice el))
    (hsz : (P.info? el).map (·.size) = some sz) (h0 : 0 ≤ p) (h1 : p < (l : Int)) : Yl P n S e ⟨some d, .indexAddr t x y, ty, pos, af, none⟩ (.pointer (some (a.add (p.toNat * sz)))) :=
  fun a w hf _ => by
    obtain ⟨i, hi, rfl⟩ := Option.map_eq_some_iff.1 hsz
    simp [execOp, hf.eval hx, hf.eval hy, Instr.indexAt, run_underlying ht, asIntOf, h0, h1, sizeOf, typeInfo, hi]
theorem Yl.loadRd {t : Nat} {x : Operand} {a : Addr} {j : Nat} {v : Value} {xs : List Value} (hx : e.ev x = some (.pointer (some (a.add j)))) (hr : RdAt c h (some a) xs) (hv : xs[j]? = some v) (ht : oneB P t = true) :
    Yl P n (St c h) e ⟨some d, .load t x, ty, pos, af, none⟩ v := fun a w hf s => by
    rcases hr with rfl | ⟨a', ha, hr⟩
    · simp at hv
    · cases ha
      simp [execOp, hf.eval hx, run_loadAt_one ht (hr w s j v hv)]
theorem run_bytes_row {w : World} {src dst el : TypeId} {b o l cp : Nat} {t : TypeId} {cs : List Value} {bs : List UInt8} (hs : P.underlying src = some (.slice el)) (he : P.underlying el = some (.int .u8)) (hd : P.underlying dst = some .string)
    (hrow : w.heap[b]? = some (.cells cs.toArray t (0, 0))) (hx : ∀ j v, (bs.map u8v)[j]? = some v → cs[o + j]? = some v) (hl : l = bs.length) : (convert src dst (.slice (some ⟨b, o, none⟩) l cp)).run P w = .ok (strV bs) w := by
  subst hl
  refine run_convert_bytes_back w src dst el _ cp bs hs he hd (fun j hj => ?_)
  rw [Addr.add_mid, cell_of_row w b (o + j) cs.toArray t (0, 0) hrow]
  simpa using hx j _ (by simp [hj, u8v])
theorem Yl.bytesRow {src dst el : Nat} {x : Operand} {b o l cp : Nat} {t : TypeId} {cs : List Value} {hs' : List Row} (bs : List UInt8) (hx : e.ev x = some (.slice (some ⟨b, o, none⟩) l cp)) (hs : P.underlying src = some (.slice el)) (he : P.underlying el = some (.int .u8)) (hd' : P.underlying dst = some .string)
    (hm : cr b t cs ∈ hs') (hc : ∀ j v, (bs.map u8v)[j]? = some v → cs[o + j]? = some v) (hl : l = bs.length) : Yl P n (Held c hs') e ⟨some d, .convert src dst x, ty, pos, af, none⟩ (strV bs) :=
  fun a w hf s => by simp [execOp, hf.eval hx, run_bytes_row hs he hd' (s.2 _ hm) hc hl]
theorem strV_beq (a b : List UInt8) : (strV a = strV b) ↔ a = b := by
  constructor
  · intro h
    simp only [strV, Value.string.injEq, ByteArray.mk.injEq] at h
    simpa using congrArg Array.toList h
  · rintro rfl; rfl

theorem list_beq (a b : List UInt8) : (a == b) = decide (a = b) := by by_cases h : a = b <;> simp [h]
theorem LW.strEql {xt yt : Nat} {x y : Operand} {a b : ByteArray} (r : Bool) (hx : e.ev x = some (.string a)) (hy : e.ev y = some (.string b)) (_ht : P.underlying xt = some .string) (hr : decide (a.data.toList = b.data.toList) = r) (hd : Nat.blt d n = true) (k : LW P n c ops Q rest ((d, .bool r) :: e) h) :
    LW P n c ops Q (⟨some d, .binOp .eql xt x y yt, ty, pos, af, none⟩ :: rest) e h :=
  LW.val _ hd (fun w hw hf _ => by
    subst hr
    simp [execOp, hf.eval hx, hf.eval hy, eqGuard_at_string, binOp, Op.stringOp, ByteArray.toList_eq]
    by_cases hab : a.data = b.data <;> simp [hab]) k
theorem LW.strNeq {xt yt : Nat} {x y : Operand} {a b : ByteArray} (r : Bool) (hx : e.ev x = some (.string a)) (hy : e.ev y = some (.string b)) (_ht : P.underlying xt = some .string) (hr : decide (a.data.toList ≠ b.data.toList) = r) (hd : Nat.blt d n = true) (k : LW P n c ops Q rest ((d, .bool r) :: e) h) :
    LW P n c ops Q (⟨some d, .binOp .neq xt x y yt, ty, pos, af, none⟩ :: rest) e h :=
  LW.val _ hd (fun w hw hf _ => by
    subst hr
    simp [execOp, hf.eval hx, hf.eval hy, eqGuard_at_string, binOp, Op.stringOp, ByteArray.toList_eq]
    by_cases hab : a.data = b.data <;> simp [hab]) k
theorem Yl.strEql {S : World → Prop} {xt yt : Nat} {x y : Operand} {a b : ByteArray} (r : Bool) (hx : e.ev x = some (.string a)) (hy : e.ev y = some (.string b)) (_ht : P.underlying xt = some .string) (hr : decide (a.data.toList = b.data.toList) = r) :
    Yl P n S e ⟨some d, .binOp .eql xt x y yt, ty, pos, af, none⟩ (.bool r) := fun w hw hf _ => by
    subst hr
    simp [execOp, hf.eval hx, hf.eval hy, eqGuard_at_string, binOp, Op.stringOp, ByteArray.toList_eq]
    by_cases hab : a.data = b.data <;> simp [hab]
theorem Yl.strNeq {S : World → Prop} {xt yt : Nat} {x y : Operand} {a b : ByteArray} (r : Bool) (hx : e.ev x = some (.string a)) (hy : e.ev y = some (.string b)) (_ht : P.underlying xt = some .string) (hr : decide (a.data.toList ≠ b.data.toList) = r) :
    Yl P n S e ⟨some d, .binOp .neq xt x y yt, ty, pos, af, none⟩ (.bool r) := fun w hw hf _ => by
    subst hr
    simp [execOp, hf.eval hx, hf.eval hy, eqGuard_at_string, binOp, Op.stringOp, ByteArray.toList_eq]
    by_cases hab : a.data = b.data <;> simp [hab]
end
end Go.Proofs.YtemdebmfdhamgaaFmt
