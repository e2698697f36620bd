/- Undef -/
import Derived.Test.YtnlpccoigflheaaGreatDoorDraw
namespace Go.Proofs.YtnlpccoigflheaaGreatDoor
open Go.RowKit
section
variable {P:Program}{n:Nat}{c:Ctx}{Q:Exit->Act->World->Prop}{e:Env}{h:Heap}{ops:Array Oper}{rest:List Oper}{d ty:Nat}{pos:String}{af:Array Edge}{op:Op}{j:Nat}{want:Bool}
theorem yielded_undef {s:Nat}{a:Act}(hf:Fr n e a)(hs:(ops[j]?).bind (·.dst)=some s)(hv:e.get s=some undef):yielded ops a.tmps j=none:=by
 have hg:=hf.get s _ hv
 unfold yielded
 rw [hs]
 show (match a.tmps[s]? with | some (.bool b)=>some b | _=>none)=none
 cases ht:a.tmps[s]? with
 | none=>rfl
 | some v=>
  have:v=undef:=by simpa [ht] using hg
  subst this
  rfl
theorem LW.offU (s:Nat)(hs:(ops[j]?).bind (·.dst)=some s)(hv:e.get s=some undef)(hd:Nat.blt d n=true)(k:LW P n c ops Q rest ((d,undef)::e) h):LW P n c ops Q (⟨some d,op,ty,pos,af,some (j,want)⟩::rest) e h:=fun a w hf hst=>by
 have hk:=k _ w (hf.put d undef hd) hst
 have hw:Region.wanted (⟨some d,op,ty,pos,af,some (j,want)⟩:Oper) (yielded ops a.tmps)=false:=by
  simp only [Region.wanted,yielded_undef hf hs hv]
  rfl
 unfold wpList
 rw [if_neg (by rw [hw];simp)]
 exact hk
end
end Go.Proofs.YtnlpccoigflheaaGreatDoor
