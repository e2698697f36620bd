/-
  ARITHMETIC THAT STAYS IN RANGE: the laws as a printer wants them. No program is named here.
-/
import Derived.Test.YtemdebmfdhamgaaFmtOps3
namespace Go.Proofs.YtemdebmfdhamgaaFmt
open Go.RowKit
theorem wru64 {p r : Int} (h : p = r) (h0 : 0 ≤ r) (h1 : r ≤ 18446744073709551615) : IntKind.u64.wrap p = r := by
  subst h
  have h2 : IntKind.u64.wrap p = p % 18446744073709551616 := by simp [IntKind.wrap, IntKind.bits, IntKind.signed]
  rw [h2]; omega
section
variable {P : Program} {n : Nat} {c : Ctx} {Q : Exit → Act → World → Prop} {e : Env} {h : Heap} {ops : Array Oper} {rest : List Oper} {d ty : Nat} {pos : String} {af : Array Edge} {xt yt : Nat} {x y : Operand} {p q : Int} {S : World → Prop}
theorem LW.add64 (hx : e.ev x = some (.int .i64 p)) (hy : e.ev y = some (.int .i64 q)) (h0 : -9223372036854775808 ≤ p + q) (h1 : p + q ≤ 9223372036854775807) (hd : Nat.blt d n = true) (k : LW P n c ops Q rest ((d, .int .i64 (p + q)) :: e) h) :
    LW P n c ops Q (⟨some d, .binOp .add xt x y yt, ty, pos, af, none⟩ :: rest) e h := LW.add _ hx hy (wr64 rfl h0 h1) hd k
theorem LW.sub64 (hx : e.ev x = some (.int .i64 p)) (hy : e.ev y = some (.int .i64 q)) (h0 : -9223372036854775808 ≤ p - q) (h1 : p - q ≤ 9223372036854775807) (hd : Nat.blt d n = true) (k : LW P n c ops Q rest ((d, .int .i64 (p - q)) :: e) h) :
    LW P n c ops Q (⟨some d, .binOp .sub xt x y yt, ty, pos, af, none⟩ :: rest) e h := LW.sub _ hx hy (wr64 rfl h0 h1) hd k
theorem LW.mul64 (hx : e.ev x = some (.int .i64 p)) (hy : e.ev y = some (.int .i64 q)) (h0 : -9223372036854775808 ≤ p * q) (h1 : p * q ≤ 9223372036854775807) (hd : Nat.blt d n = true) (k : LW P n c ops Q rest ((d, .int .i64 (p * q)) :: e) h) :
    LW P n c ops Q (⟨some d, .binOp .mul xt x y yt, ty, pos, af, none⟩ :: rest) e h := LW.mul _ hx hy (wr64 rfl h0 h1) hd k
theorem Yl.add64 (hx : e.ev x = some (.int .i64 p)) (hy : e.ev y = some (.int .i64 q)) (h0 : -9223372036854775808 ≤ p + q) (h1 : p + q ≤ 9223372036854775807) : Yl P n S e ⟨some d, .binOp .add xt x y yt, ty, pos, af, none⟩ (.int .i64 (p + q)) := Yl.add _ hx hy (wr64 rfl h0 h1)
theorem Yl.sub64 (hx : e.ev x = some (.int .i64 p)) (hy : e.ev y = some (.int .i64 q)) (h0 : -9223372036854775808 ≤ p - q) (h1 : p - q ≤ 9223372036854775807) : Yl P n S e ⟨some d, .binOp .sub xt x y yt, ty, pos, af, none⟩ (.int .i64 (p - q)) := Yl.sub _ hx hy (wr64 rfl h0 h1)
theorem Yl.mul64 (hx : e.ev x = some (.int .i64 p)) (hy : e.ev y = some (.int .i64 q)) (h0 : -9223372036854775808 ≤ p * q) (h1 : p * q ≤ 9223372036854775807) : Yl P n S e ⟨some d, .binOp .mul xt x y yt, ty, pos, af, none⟩ (.int .i64 (p * q)) := Yl.mul _ hx hy (wr64 rfl h0 h1)
variable {src dst : Nat} {kx : IntKind} {ds : TypeDesc}
theorem LW.conv64 (hx : e.ev x = some (.int kx p)) (hs : P.underlying src = some ds) (hd' : P.underlying dst = some (.int .i64)) (h0 : -9223372036854775808 ≤ p) (h1 : p ≤ 9223372036854775807) (hd : Nat.blt d n = true) (k : LW P n c ops Q rest ((d, .int .i64 p) :: e) h) :
    LW P n c ops Q (⟨some d, .convert src dst x, ty, pos, af, none⟩ :: rest) e h := LW.convInt _ hx hs hd' (wr64 rfl h0 h1) hd k
theorem Yl.conv64 (hx : e.ev x = some (.int kx p)) (hs : P.underlying src = some ds) (hd' : P.underlying dst = some (.int .i64)) (h0 : -9223372036854775808 ≤ p) (h1 : p ≤ 9223372036854775807) : Yl P n S e ⟨some d, .convert src dst x, ty, pos, af, none⟩ (.int .i64 p) := Yl.convInt _ hx hs hd' (wr64 rfl h0 h1)
theorem Yl.quo (r : Int) {ki : IntKind} (hx : e.ev x = some (.int ki p)) (hy : e.ev y = some (.int ki q)) (h0 : q ≠ 0) (hr : ki.wrap (p.tdiv q) = r) : Yl P n S e ⟨some d, .binOp .quo xt x y yt, ty, pos, af, none⟩ (.int ki r) :=
  Yl.int2 hx hy (fun w => by subst hr; simp [binOp, Op.intDiv, h0])
theorem tdivN {p q : Int} (h0 : 0 ≤ p) (h1 : 0 < q) : p.tdiv q = p / q := by rw [Int.tdiv_eq_ediv_of_nonneg h0]
theorem LW.quoN (hx : e.ev x = some (.int .i64 p)) (hy : e.ev y = some (.int .i64 q)) (h0 : 0 ≤ p ∧ p ≤ 9223372036854775807) (h1 : 0 < q) (hd : Nat.blt d n = true) (k : LW P n c ops Q rest ((d, .int .i64 (p / q)) :: e) h) :
    LW P n c ops Q (⟨some d, .binOp .quo xt x y yt, ty, pos, af, none⟩ :: rest) e h := LW.quo _ hx hy (by omega) (by
      rw [tdivN h0.1 h1]
      have h2 := Int.ediv_nonneg h0.1 (Int.le_of_lt h1)
      have h3 := Int.ediv_le_self q h0.1
      exact wr64 rfl (by omega) (by omega)) hd k
theorem LW.remN (hx : e.ev x = some (.int .i64 p)) (hy : e.ev y = some (.int .i64 q)) (h0 : 0 ≤ p) (h1 : 0 < q) (hd : Nat.blt d n = true) (k : LW P n c ops Q rest ((d, .int .i64 (p % q)) :: e) h) :
    LW P n c ops Q (⟨some d, .binOp .rem xt x y yt, ty, pos, af, none⟩ :: rest) e h := LW.rem _ hx hy (by omega) (Int.tmod_eq_emod_of_nonneg h0) hd k
theorem Yl.quoN (hx : e.ev x = some (.int .i64 p)) (hy : e.ev y = some (.int .i64 q)) (h0 : 0 ≤ p ∧ p ≤ 9223372036854775807) (h1 : 0 < q) : Yl P n S e ⟨some d, .binOp .quo xt x y yt, ty, pos, af, none⟩ (.int .i64 (p / q)) := Yl.quo _ hx hy (by omega) (by
      rw [tdivN h0.1 h1]
      have h2 := Int.ediv_nonneg h0.1 (Int.le_of_lt h1)
      have h3 := Int.ediv_le_self q h0.1
      exact wr64 rfl (by omega) (by omega))
theorem Yl.remN (hx : e.ev x = some (.int .i64 p)) (hy : e.ev y = some (.int .i64 q)) (h0 : 0 ≤ p) (h1 : 0 < q) : Yl P n S e ⟨some d, .binOp .rem xt x y yt, ty, pos, af, none⟩ (.int .i64 (p % q)) := Yl.int2 hx hy (fun w => by simp [binOp, Op.intDiv, show q ≠ 0 by omega, Int.tmod_eq_emod_of_nonneg h0])
end
end Go.Proofs.YtemdebmfdhamgaaFmt
