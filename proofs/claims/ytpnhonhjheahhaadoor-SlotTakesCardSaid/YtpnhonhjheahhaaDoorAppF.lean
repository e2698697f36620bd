/-
  append, onto a slice that is full: into new memory. No program is named here.
-/
import Derived.Test.YtpnhonhjheahhaaDoorApp
namespace Go.Proofs.YtpnhonhjheahhaaDoor
open Go.RowKit
section
variable {P : Program} {n : Nat} {c : Ctx} {Q : Exit → Act → World → Prop} {e : Env} {h : Heap} {ops : Array Oper} {rest : List Oper}
theorem LW.appendFull {d ty t t2 el sz by_ m k : Nat} {pos : String} {af : Array Edge} {x y : Operand} {A : Option Addr} {u z : Value} {d2 : TypeDesc} (xs ys : List Value) (hx : e.ev x = some (.slice A m m)) (hy : e.ev y = some u) (ht : P.underlying t = some (.slice el)) (ht2 : P.underlying t2 = some d2) (hd2 : d2 = .string ∨ ∃ q, d2 = .slice q)
    (hi : (P.info? el).map (fun i => (i.zero, i.size, i.bytes)) = some (some z, sz, by_)) (hzs : z.cells.size = sz) (hr : RdAt c h A xs) (hxl : xs.length = m * sz) (hA : A = none → m = 0) (hlen : ∀ w, (Builtin.lenOf u).run P w = .ok k w)
    (hfirst : ∀ w', St c h w' → (Builtin.firstCells sz k u).run P w' = .ok ys.toArray w') (hyl : ys.length = k * sz) (hk : 0 < k) (h63 : m + k ≤ 9223372036854775807) (hb : (m + k) * by_ ≤ 140737488355328) (hd : Nat.blt d n = true)
    (kk : ∀ v' ch', OwnS el sz v' (m + k) (xs ++ ys) ch' → LW P n c ops Q rest ((d, v') :: e) (ch' :: h)) :
    LW P n c ops Q (⟨some d, .call { callee := .builtin .append, args := #[x, y], argTypes := #[t, t2] }, ty, pos, af, none⟩ :: rest) e h :=
  LW.act hd fun a w hf s => by
    obtain ⟨i, hi', hz, rfl, rfl⟩ := info_parts hi
    have hcz : ∀ q, (Builtin.zeroCells z.cells q).size = q * i.size := fun q => by simp [Builtin.zeroCells, hzs]
    have hcap : m + k ≤ grownCap w (m + k) m el := cut_appendCap _ _ _ _
    have hrun := run_append_new (P := P) (w := w) (ty := ty) (base := A) (m := m) (cap := m) (xs := xs) ht ht2 hd2 hi' hz rfl rfl (hlen w) (hfirst _ s.drew) (run_firstCells_rd hr s.drew hxl (fun h0 => by rw [hA h0]; simp)) (by omega) h63 (growslice_fits (by omega) hb)
    refine ⟨.slice (some ⟨w.heap.size, 0, none⟩) (m + k) (grownCap w (m + k) m el), _, w.drew.alloc (.cells (xs.toArray ++ ys.toArray ++ Builtin.zeroCells z.cells (grownCap w (m + k) m el - (m + k))) el), ?_, s.drew.alloc _, ?_⟩
    · simp only [execOp, resolve, invoke, builtin, List.map_toArray, List.map_cons, List.map_nil, hf.eval hx, hf.eval hy, Sem.run_bind, Sem.run_pure, Result.andThen_ok, hrun]
    · have hA' : (xs.toArray ++ ys.toArray ++ Builtin.zeroCells z.cells (grownCap w (m + k) m el - (m + k)) : Array Value) = (xs ++ ys ++ (Builtin.zeroCells z.cells (grownCap w (m + k) m el - (m + k))).toList).toArray := by apply Array.ext'; simp
      rw [hA']
      exact kk _ _ (.inr ⟨w.heap.size, _, (Builtin.zeroCells z.cells (grownCap w (m + k) m el - (m + k))).toList, rfl, by rw [List.length_append, hxl, hyl, Nat.add_mul], hcap, by simp [hcz], rfl⟩)
end
end Go.Proofs.YtpnhonhjheahhaaDoor
