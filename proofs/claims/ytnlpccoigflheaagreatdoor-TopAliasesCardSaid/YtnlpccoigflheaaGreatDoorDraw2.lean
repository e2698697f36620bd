/- Draw2 -/
import Derived.Test.YtnlpccoigflheaaGreatDoorRun
namespace Go.Proofs.YtnlpccoigflheaaGreatDoor
open Go.RowKit
def takesB (ops:Array Oper):List Nat->Array Bool->Bool
 | [],_=>true
 | i::is,listed=>Region.free .any ops listed i && ((Region.ready .any ops listed).contains i && takesB ops is (listed.setIfInBounds i true))
def listedBy:List Nat->Array Bool->Array Bool
 | [],listed=>listed
 | i::is,listed=>listedBy is (listed.setIfInBounds i true)
def TW (P:Program)(n:Nat)(S:World->Prop)(ops:Array Oper):List Nat->Env->(Env->Prop)->Prop
 | [],e,K=>K e
 | i::is,e,K=>∃ o d v,ops[i]?=some o/\o.dst=some d/\Nat.blt d n=true/\(∀ a,Fr n e a->YieldsIf P ops S o v a)/\TW P n S ops is ((d,v)::e) K
section
variable {P:Program}{n:Nat}{c:Ctx}{Q:Exit->Act->World->Prop}{e:Env}{h:Heap}{ops:Array Oper}{S:World->Prop}{fuel:Nat}{listed:Array Bool}
theorem AW.takes (is:List Nat)(m:Nat)(hs:Region.noSelect ops=true)(hb:takesB ops is listed=true)(hfuel:fuel=m+is.length)(hQ:PO Q)(hS:∀ w,St c h w->S w)
  (k:TW P n S ops is e (fun e'=>AW P n c ops Q S m (listedBy is listed) e' h)):AW P n c ops Q S fuel listed e h:=by
 induction is generalizing listed e fuel with
 | nil=>simp at hfuel;subst hfuel;exact k
 | cons i is ih=>
  obtain⟨o,d,v,hi,hod,hd,hy,k⟩:=k
  simp only [takesB,Bool.and_eq_true] at hb
  obtain⟨hf,hr,hb⟩:=hb
  have hfu:fuel=(m+is.length)+1:=by rw [hfuel];simp;omega
  subst hfu
  intro a w hfr hst
  refine wpAnyH_take hi hs hf hr (fun ch a' w' hq=>by rw [hod] at hq;exact hQ ch d v a' w' hq) (hy a hfr) (hS w hst) ?_
  have:=ih (fuel:=m+is.length) hb rfl k
  rw [hod]
  exact this _ _ (hfr.put d v hd) hst
variable {K:Env->Prop}{is:List Nat}{i d ty:Nat}{op:Op}{pos:String}{af:Array Edge}{v:Value}
theorem TW.nil (k:K e):TW P n S ops [] e K:=k
theorem TW.take (hi:ops[i]?=some ⟨some d,op,ty,pos,af,none⟩)(hy:Yl P n S e ⟨some d,op,ty,pos,af,none⟩ v)(hd:Nat.blt d n=true)(k:TW P n S ops is ((d,v)::e) K):TW P n S ops (i::is) e K:=
 ⟨_,d,v,hi,rfl,hd,fun a hf=>.inl ⟨rfl,fun w hw=>hy a w hf hw⟩,k⟩
theorem TW.on {j:Nat}{want:Bool}(sl:Nat)(hi:ops[i]?=some ⟨some d,op,ty,pos,af,some (j,want)⟩)(hj:(ops[j]?).bind (·.dst)=some sl)(hv:e.get sl=some (.bool want))(hy:Yl P n S e ⟨some d,op,ty,pos,af,none⟩ v)(hd:Nat.blt d n=true)
  (k:TW P n S ops is ((d,v)::e) K):TW P n S ops (i::is) e K:=
 ⟨_,d,v,hi,rfl,hd,fun a hf=>.inl ⟨by simp [Region.wanted,yielded_of hf hj hv],fun w hw=>hy a w hf hw⟩,k⟩
theorem TW.off {j:Nat}{want q:Bool}(sl:Nat)(hi:ops[i]?=some ⟨some d,op,ty,pos,af,some (j,want)⟩)(hj:(ops[j]?).bind (·.dst)=some sl)(hv:e.get sl=some (.bool q))(hq:(q==want)=false)(hd:Nat.blt d n=true)
  (k:TW P n S ops is ((d,undef)::e) K):TW P n S ops (i::is) e K:=
 ⟨_,d,undef,hi,rfl,hd,fun a hf=>.inr ⟨by
  simp only [Region.wanted,yielded_of hf hj hv]
  cases q<;>cases want<;>first | rfl | (simp at hq),rfl⟩,k⟩
theorem TW.offU {j:Nat}{want:Bool}(sl:Nat)(hi:ops[i]?=some ⟨some d,op,ty,pos,af,some (j,want)⟩)(hj:(ops[j]?).bind (·.dst)=some sl)(hv:e.get sl=some undef)(hd:Nat.blt d n=true)
  (k:TW P n S ops is ((d,undef)::e) K):TW P n S ops (i::is) e K:=
 ⟨_,d,undef,hi,rfl,hd,fun a hf=>.inr ⟨by
  simp only [Region.wanted,yielded_undef hf hj hv]
  rfl,rfl⟩,k⟩
end
theorem AW.ts {P:Program}{n:Nat}{c:Ctx}{ops:Array Oper}{Q:Exit->Act->World->Prop}{S:World->Prop}{fuel:Nat}{listed:Array Bool}{e:Env}{h:Heap}(is:List Nat)(m:Nat)(k:TW P n S ops is e (fun e'=>AW P n c ops Q S m (listedBy is listed) e' h))(hs:Region.noSelect ops=true:=by kernel_rfl)(hb:takesB ops is listed=true:=by kernel_rfl)(hfuel:fuel=m+is.length:=by rfl)
 (hQ:PO Q:=by repeat (first | refine PO.qof ?_ | exact PO.body | refine PO.then_ ?_ | refine PO.block ?_ | refine PO.noGoto ?_)) (hS:∀ w,St c h w->S w:=by exact fun _ s=>Held.of s (by repeat (first | exact Sub.nil _ | refine Sub.cons1 .t ?_))):AW P n c ops Q S fuel listed e h:=AW.takes is m hs hb hfuel hQ hS k
theorem AW.b {P:Program}{n:Nat}{c:Ctx}{ops:Array Oper}{Q:Exit->Act->World->Prop}{S:World->Prop}{fuel:Nat}{listed:Array Bool}{e:Env}{h:Heap}(k:AW P n c ops Q S fuel listed e h)(hS:∀ w,St c h w->S w:=by exact fun _ s=>Held.of s (by repeat (first | exact Sub.nil _ | refine Sub.cons1 .t ?_))):NW n c .normal (Exit.then (fun a' w'=>S w'/\wpAnyH P .any ops Q S fuel listed a' w') Q) e h:=AW.back hS k
theorem AW.a {P:Program}{n:Nat}{c:Ctx}{ops:Array Oper}{Q:Exit->Act->World->Prop}{S:World->Prop}{fuel:Nat}{listed:Array Bool}{e:Env}{h:Heap}{o:Oper}(i:Nat)(k:LW P n c ops (Exit.then (fun a' w'=>S w'/\wpAnyH P .any ops Q S fuel (listed.setIfInBounds i true) a' w') Q) [o] e h)(hr:Region.ready .any ops listed=[i]:=by kernel_rfl)(hi:ops[i]?=some o:=by rfl):AW P n c ops Q S (fuel+1) listed e h:=AW.act i hr hi k
theorem AW.d {P:Program}{n:Nat}{c:Ctx}{ops:Array Oper}{Q:Exit->Act->World->Prop}{S:World->Prop}{fuel:Nat}{listed:Array Bool}{e:Env}{h:Heap}(k:NW n c .normal Q e h)(hr:Region.ready .any ops listed=[]:=by kernel_rfl):AW P n c ops Q S fuel listed e h:=AW.done hr k
section
variable {P:Program}{n:Nat}{S:World->Prop}{ops:Array Oper}{i:Nat}{is:List Nat}{e:Env}{K:Env->Prop}{d ty t s j b o:Nat}{pos:String}{af:Array Edge}{v:Value}{x:Operand}{c:Ctx}{hs:List Row}{u:TypeId}{l:List Value}
theorem TW.mv (k:TW P n S ops is ((d,v)::e) K)(hi:ops[i]?=some ⟨some d,.move x,ty,pos,af,none⟩:=by rfl)(hx:e.ev x=some v:=by rfl)(hd:Nat.blt d n=true:=by rfl):TW P n S ops (i::is) e K:=TW.take hi (Yl.move hx) hd k
theorem TW.as (k:TW P n S ops is ((d,v)::e) K)(hi:ops[i]?=some ⟨some d,.assign x,ty,pos,af,none⟩:=by rfl)(hx:e.ev x=some v:=by rfl)(hd:Nat.blt d n=true:=by rfl):TW P n S ops (i::is) e K:=TW.take hi (Yl.assign hx) hd k
theorem TW.np {p:Addr}(k:TW P n S ops is ((d,.pointer (some p))::e) K)(hi:ops[i]?=some ⟨some d,.nilCheck x,ty,pos,af,none⟩:=by rfl)(hx:e.ev x=some (.pointer (some p)):=by rfl)(hd:Nat.blt d n=true:=by rfl):TW P n S ops (i::is) e K:=TW.take hi (Yl.nilPtr hx) hd k
theorem TW.fa {g:Nat->Nat}(hf':∀ (b o:Nat) (w:World),(Instr.fieldAt s (.pointer (some ⟨b,o,none⟩)) j).run P w=.ok (.pointer (some ⟨b,g o,none⟩)) w)(k:TW P n S ops is ((d,.pointer (some ⟨b,g o,none⟩))::e) K)(hi:ops[i]?=some ⟨some d,.fieldAddr s x j,ty,pos,af,none⟩:=by rfl)(hx:e.ev x=some (.pointer (some ⟨b,o,none⟩)):=by rfl)(hd:Nat.blt d n=true:=by rfl):TW P n S ops (i::is) e K:=TW.take hi (Yl.fieldAddr _ hx (fun w=>hf' b o w)) hd k
theorem TW.ld (ht:oneB P t=true)(k:TW P n (Held c hs) ops is ((d,v)::e) K)(hi:ops[i]?=some ⟨some d,.load t x,ty,pos,af,none⟩:=by rfl)(hx:e.ev x=some (.pointer (some ⟨b,o,none⟩)):=by rfl)(hm:cr b u l∈hs:=by repeat (first | exact List.Mem.head _ | refine List.Mem.tail _ ?_))(hv:l[o]?=some v:=by rfl)(hd:Nat.blt d n=true:=by rfl):TW P n (Held c hs) ops (i::is) e K:=TW.take hi (Yl.load hx hm hv ht) hd k
end
end Go.Proofs.YtnlpccoigflheaaGreatDoor
