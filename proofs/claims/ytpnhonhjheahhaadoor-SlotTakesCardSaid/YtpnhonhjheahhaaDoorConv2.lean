/-
  A CONSTANT TEXT AS BYTES ('[]byte("..")', laid as a slice and marked); bytes of any slice as a text, where a region only reads. No program is named here.
-/
import Derived.Test.YtpnhonhjheahhaaDoorStr
namespace Go.Proofs.YtpnhonhjheahhaaDoor
open Go.RowKit
section
variable {P : Program} {n : Nat} {c : Ctx} {Q : Exit → Act → World → Prop} {e : Env} {h : Heap} {ops : Array Oper} {rest : List Oper} {d ty : Nat} {pos : String} {af : Array Edge}
abbrev marked (b : Nat) (t : TypeId) (l : List Value) : Row := ⟨b, .cells l.toArray t (l.length, l.length + 1)⟩
theorem Src.marked {W : World} {B : Nat} {b : Nat} {t : TypeId} {l : List Value} : Src W B [marked b t l] (some ⟨b, 0, none⟩) l :=
  .inr ⟨_, rfl, .inr ⟨b, 0, (t, l.length, l.length + 1), l, rfl, by simp, fun j v hj => by rw [Nat.zero_add]; exact hj⟩⟩
theorem LW.mark {t el : Nat} {x : Operand} {b m cap : Nat} {u : TypeId} {l : List Value} {h' : Heap} (hx : e.ev x = some (.slice (some ⟨b, 0, none⟩) m cap)) (ht : P.underlying t = some (.slice el)) (he : P.underlying el = some (.int .u8)) (tk : Take [cr b u l] h h') (hd : Nat.blt d n = true)
    (k : LW P n c ops Q rest ((d, .slice (some ⟨b, 0, none⟩) m cap) :: e) ([marked b u l] :: h')) : LW P n c ops Q (⟨some d, .convert t t x, ty, pos, af, none⟩ :: rest) e h :=
  LW.act hd fun a w hf s => by
    have hr := s.row tk
    have hlt := row_lt hr
    have hsh : w.shape? b = some (u, l.length) := by simp [World.shape?, hr]
    refine ⟨_, _, w.freeze ⟨b, l.length, none⟩ 1, ?_, s.set (o' := .cells l.toArray u (l.length, l.length + 1)) tk rfl rfl rfl ?_ ?_ ?_, k⟩
    · simp [execOp, hf.eval hx, convert, run_underlying ht, run_underlying he, markStringish, hsh]
    · simp [World.freeze]
    · simp [World.freeze, Array.getElem?_modify, hr]
    · intro q hq
      simp [World.freeze, Array.getElem?_modify, Ne.symm hq]
theorem Yl.bytesRd {src dst el : Nat} {x : Operand} {A : Option Addr} {l cp : Nat} (bs : List UInt8) (hx : e.ev x = some (.slice A l cp)) (hs : P.underlying src = some (.slice el)) (he : P.underlying el = some (.int .u8)) (hd' : P.underlying dst = some .string)
    (k : RdAt c h A (bs.map u8v)) (hl : l = bs.length) : Yl P n (St c h) e ⟨some d, .convert src dst x, ty, pos, af, none⟩ (strV bs) :=
  fun a w hf s => by simp [execOp, hf.eval hx, run_bytes_rd hs he hd' k s hl]
end
end Go.Proofs.YtpnhonhjheahhaaDoor
