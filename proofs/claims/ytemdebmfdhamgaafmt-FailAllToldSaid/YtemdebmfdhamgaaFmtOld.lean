/-
  READS OUT OF OLD MEMORY through a slice, in a region that draws its order. No program is named here.
-/
import Derived.Test.YtemdebmfdhamgaaFmtStr
namespace Go.Proofs.YtemdebmfdhamgaaFmt
open Go.RowKit
section
variable {P : Program} {n : Nat} {c : Ctx} {e : Env} {d ty : Nat} {pos : String} {af : Array Edge}
theorem Yl.loadSrc {hs : List Row} {t : Nat} {x : Operand} {a : Addr} {j : Nat} {v : Value} {xs : List Value} (hx : e.ev x = some (.pointer (some (a.add j)))) (k : Src c.W c.B [] (some a) xs) (hv : xs[j]? = some v) (ht : oneB P t = true) :
    Yl P n (Held c hs) e ⟨some d, .load t x, ty, pos, af, none⟩ v := fun a1 w hf hS => by
  rcases k with rfl | ⟨a', ha, ⟨hb, hx'⟩ | ⟨_, _, _, _, _, hm, _⟩⟩
  · simp at hv
  · cases ha
    have hc : w.cell? (a.add j) = some v := (World.cell?_of_block (w := c.W) (hS.1.block _ (by rw [block_of_add]; exact hb))).trans (hx' j v hv)
    simp [execOp, hf.eval hx, run_loadAt_one ht hc]
  · cases hm
theorem Yl.rem {S : World → Prop} {xt yt : Nat} {x y : Operand} {ki : IntKind} {p q : Int} (r : Int) (hx : e.ev x = some (.int ki p)) (hy : e.ev y = some (.int ki q)) (h0 : q ≠ 0) (hr : p.tmod q = r) : Yl P n S e ⟨some d, .binOp .rem xt x y yt, ty, pos, af, none⟩ (.int ki r) :=
  Yl.int2 hx hy (fun w => by subst hr; simp [binOp, Op.intDiv, h0])
end
end Go.Proofs.YtemdebmfdhamgaaFmt
