/- Ops -/
import Derived.Test.YtnlpccoigflheaaGreatDoorBase
import Derived.Deep.MidRow
import Derived.Deep.Draws
import Derived.WideLaws
import Derived.LaidEql
import Derived.LaidEqlPtr
namespace Go.Proofs.YtnlpccoigflheaaGreatDoor
open Go.RowKit
def Env.Evs (e:Env):List Operand->List Value->Prop
 | [],[]=>True
 | x::xs,v::vs=>e.ev x=some v/\Env.Evs e xs vs
 | _,_=>False
theorem Env.Evs.map {n:Nat}{e:Env}{a:Act}(hf:Fr n e a):∀ (xs:List Operand) (vs:List Value),e.Evs xs vs->xs.map a.eval=vs
 | [],[],_=>rfl
 | [],_::_,h=>h.elim
 | _::_,[],h=>h.elim
 | _::xs,_::vs,h=>by simp [hf.eval h.1,Env.Evs.map hf xs vs h.2]
theorem wr64 {p r:Int}(h:p=r)(h0:-9223372036854775808<=r)(h1:r<=9223372036854775807):IntKind.i64.wrap p=r:=by
 subst h
 exact IntWalk.i64_in _ ⟨h0,by omega⟩
section
variable {P:Program}{n:Nat}{c:Ctx}{Q:Exit->Act->World->Prop}{e:Env}{h:Heap}{ops:Array Oper}{rest:List Oper}
theorem LW.val {op:Op}{d ty:Nat}{pos:String}{af:Array Edge}(v:Value)(hd:Nat.blt d n=true)
  (hrun:∀ a w,Fr n e a->St c h w->(execOp a.eval ⟨some d,op,ty,pos,af,none⟩).run P w=.ok (.value v) w)
  (k:LW P n c ops Q rest ((d,v)::e) h):LW P n c ops Q (⟨some d,op,ty,pos,af,none⟩::rest) e h:=fun a w hf hs=>
 wpList_plain rfl fun _ hK=>by unfold Oper.wp;rw [hrun a w hf hs];exact hK _ _ (k _ _ (hf.put d v hd) hs)
theorem LW.act {op:Op}{d ty:Nat}{pos:String}{af:Array Edge}(hd:Nat.blt d n=true)
  (hrun:∀ a w,Fr n e a->St c h w->∃ v h' w',(execOp a.eval ⟨some d,op,ty,pos,af,none⟩).run P w=.ok (.value v) w'/\St c h' w'/\LW P n c ops Q rest ((d,v)::e) h') :
  LW P n c ops Q (⟨some d,op,ty,pos,af,none⟩::rest) e h:=fun a w hf hs=>
 wpList_plain rfl fun _ hK=>by
  obtain⟨v,h',w',hr,hs',k⟩:=hrun a w hf hs
  unfold Oper.wp
  rw [hr]
  exact hK _ _ (k _ _ (hf.put d v hd) hs')
theorem LW.skipAct {op:Op}{ty:Nat}{pos:String}{af:Array Edge}{x:Next}(hx:x=.skip\/∃ v,x=.value v)
  (hrun:∀ a w,Fr n e a->St c h w->∃ h' w',(execOp a.eval ⟨none,op,ty,pos,af,none⟩).run P w=.ok x w'/\St c h' w'/\LW P n c ops Q rest e h') :
  LW P n c ops Q (⟨none,op,ty,pos,af,none⟩::rest) e h:=fun a w hf hs=>
 wpList_plain rfl fun _ hK=>by
  obtain⟨h',w',hr,hs',k⟩:=hrun a w hf hs
  unfold Oper.wp
  rw [hr]
  rcases hx with rfl | ⟨v,rfl⟩<;>exact hK _ _ (k _ _ hf hs')
theorem LW.on {op:Op}{d:Option Nat}{ty:Nat}{pos:String}{af:Array Edge}{j:Nat}{want:Bool}(s:Nat)(hs:(ops[j]?).bind (·.dst)=some s)(hv:e.get s=some (.bool want))
  (k:LW P n c ops Q (⟨d,op,ty,pos,af,none⟩::rest) e h):LW P n c ops Q (⟨d,op,ty,pos,af,some (j,want)⟩::rest) e h:=fun a w hf hst=>by
 have hk:=k a w hf hst
 have hlt:s<a.tmps.size:=by
  rcases Nat.lt_or_ge s a.tmps.size with h' | h'
  . exact h'
  . have:=hf.get s _ hv
    simp [Array.getElem?_eq_none h'] at this
    cases this
 have hget:a.tmps[s]?=some (.bool want):=by
  have:=hf.get s _ hv
  simp only [Array.getD_eq_getD_getElem?,Array.getElem?_eq_getElem hlt,Option.getD_some] at this
  rw [Array.getElem?_eq_getElem hlt,this]
 have hy:yielded ops a.tmps j=some want:=by simp [yielded,hs,hget]
 have hw:Region.wanted (⟨d,op,ty,pos,af,some (j,want)⟩:Oper) (yielded ops a.tmps)=true:=by simp [Region.wanted,hy]
 have hw0:Region.wanted (⟨d,op,ty,pos,af,none⟩:Oper) (yielded ops a.tmps)=true:=rfl
 unfold wpList at hk |-
 rw [if_pos hw0] at hk
 rw [if_pos hw]
 exact hk
theorem LW.off {op:Op}{d ty:Nat}{pos:String}{af:Array Edge}{j:Nat}{want q:Bool}(s:Nat)(hs:(ops[j]?).bind (·.dst)=some s)(hv:e.get s=some (.bool q))(hq:(q==want)=false)(hd:Nat.blt d n=true)
  (k:LW P n c ops Q rest ((d,undef)::e) h):LW P n c ops Q (⟨some d,op,ty,pos,af,some (j,want)⟩::rest) e h:=fun a w hf hst=>by
 have hk:=k _ w (hf.put d undef hd) hst
 have hlt:s<a.tmps.size:=by
  rcases Nat.lt_or_ge s a.tmps.size with h' | h'
  . exact h'
  . have:=hf.get s _ hv
    simp [Array.getElem?_eq_none h'] at this
    cases this
 have hget:a.tmps[s]?=some (.bool q):=by
  have:=hf.get s _ hv
  simp only [Array.getD_eq_getD_getElem?,Array.getElem?_eq_getElem hlt,Option.getD_some] at this
  rw [Array.getElem?_eq_getElem hlt,this]
 have hy:yielded ops a.tmps j=some q:=by simp [yielded,hs,hget]
 unfold wpList
 have hw:Region.wanted (⟨some d,op,ty,pos,af,some (j,want)⟩:Oper) (yielded ops a.tmps)=false:=by
  simp only [Region.wanted,hy]
  cases q<;>cases want<;>first | rfl | (simp at hq)
 rw [if_neg (by rw [hw];simp)]
 exact hk
section plain
variable {d ty:Nat}{pos:String}{af:Array Edge}
theorem LW.move {x:Operand}{v:Value}(hx:e.ev x=some v)(hd:Nat.blt d n=true)(k:LW P n c ops Q rest ((d,v)::e) h) :
  LW P n c ops Q (⟨some d,.move x,ty,pos,af,none⟩::rest) e h:=
 LW.val v hd (fun a w hf _=>by simp [execOp,hf.eval hx]) k
theorem LW.assign {x:Operand}{v:Value}(hx:e.ev x=some v)(hd:Nat.blt d n=true)(k:LW P n c ops Q rest ((d,v)::e) h) :
  LW P n c ops Q (⟨some d,.assign x,ty,pos,af,none⟩::rest) e h:=
 LW.val v hd (fun a w hf _=>by simp [execOp,hf.eval hx]) k
theorem LW.pickT {x y z:Operand}{v:Value}(hx:e.ev x=some (.bool true))(hy:e.ev y=some v)(hd:Nat.blt d n=true)(k:LW P n c ops Q rest ((d,v)::e) h) :
  LW P n c ops Q (⟨some d,.pick x y z,ty,pos,af,none⟩::rest) e h:=
 LW.val v hd (fun a w hf _=>by simp [execOp,hf.eval hx,hf.eval hy,asBool]) k
theorem LW.pickF {x y z:Operand}{v:Value}(hx:e.ev x=some (.bool false))(hy:e.ev z=some v)(hd:Nat.blt d n=true)(k:LW P n c ops Q rest ((d,v)::e) h) :
  LW P n c ops Q (⟨some d,.pick x y z,ty,pos,af,none⟩::rest) e h:=
 LW.val v hd (fun a w hf _=>by simp [execOp,hf.eval hx,hf.eval hy,asBool]) k
theorem LW.nilPtr {x:Operand}{p:Addr}(hx:e.ev x=some (.pointer (some p)))(hd:Nat.blt d n=true)(k:LW P n c ops Q rest ((d,.pointer (some p))::e) h) :
  LW P n c ops Q (⟨some d,.nilCheck x,ty,pos,af,none⟩::rest) e h:=
 LW.val _ hd (fun a w hf _=>by simp [execOp,hf.eval hx]) k
theorem LW.not {x:Operand}{b:Bool}{t:Nat}(q:Bool)(hx:e.ev x=some (.bool b))(hq:(!b)=q)(hd:Nat.blt d n=true)(k:LW P n c ops Q rest ((d,.bool q)::e) h) :
  LW P n c ops Q (⟨some d,.unOp .not t x,ty,pos,af,none⟩::rest) e h:=
 LW.val _ hd (fun a w hf _=>by subst hq;simp [execOp,hf.eval hx,Op.unary]) k
theorem LW.extract {x:Operand}{vs:Array Value}{i:Nat}{v:Value}(hx:e.ev x=some (.tuple vs))(hv:vs[i]?=some v)(hd:Nat.blt d n=true)(k:LW P n c ops Q rest ((d,v)::e) h) :
  LW P n c ops Q (⟨some d,.extract x i,ty,pos,af,none⟩::rest) e h:=
 LW.val v hd (fun a w hf _=>by simp [execOp,hf.eval hx,Instr.extract,hv]) k
theorem LW.int2 {op:BinOp}{xt yt:Nat}{x y:Operand}{kx ky:IntKind}{p q:Int}{v:Value}(hx:e.ev x=some (.int kx p))(hy:e.ev y=some (.int ky q))
  (hv:∀ w,(binOp op xt (.int kx p) (.int ky q)).run P w=.ok v w) (hd:Nat.blt d n=true) (k:LW P n c ops Q rest ((d,v)::e) h) :
  LW P n c ops Q (⟨some d,.binOp op xt x y yt,ty,pos,af,none⟩::rest) e h:=
 LW.val v hd (fun a w hf _=>by simp [execOp,hf.eval hx,hf.eval hy,hv,eqGuard_at_int,Result.andThen]) k
section ints
variable {xt yt:Nat}{x y:Operand}{ki:IntKind}{p q:Int}
theorem LW.add (r:Int)(hx:e.ev x=some (.int ki p))(hy:e.ev y=some (.int ki q))(hr:ki.wrap (p+q)=r)(hd:Nat.blt d n=true)(k:LW P n c ops Q rest ((d,.int ki r)::e) h) :
 LW P n c ops Q (⟨some d,.binOp .add xt x y yt,ty,pos,af,none⟩::rest) e h:=LW.int2 hx hy (fun w=>by subst hr;simp [binOp,Op.intArith]) hd k
theorem LW.sub (r:Int)(hx:e.ev x=some (.int ki p))(hy:e.ev y=some (.int ki q))(hr:ki.wrap (p-q)=r)(hd:Nat.blt d n=true)(k:LW P n c ops Q rest ((d,.int ki r)::e) h) :
 LW P n c ops Q (⟨some d,.binOp .sub xt x y yt,ty,pos,af,none⟩::rest) e h:=LW.int2 hx hy (fun w=>by subst hr;simp [binOp,Op.intArith]) hd k
theorem LW.mul (r:Int)(hx:e.ev x=some (.int ki p))(hy:e.ev y=some (.int ki q))(hr:ki.wrap (p*q)=r)(hd:Nat.blt d n=true)(k:LW P n c ops Q rest ((d,.int ki r)::e) h) :
 LW P n c ops Q (⟨some d,.binOp .mul xt x y yt,ty,pos,af,none⟩::rest) e h:=LW.int2 hx hy (fun w=>by subst hr;simp [binOp,Op.intArith]) hd k
theorem LW.quo (r:Int)(hx:e.ev x=some (.int ki p))(hy:e.ev y=some (.int ki q))(h0:q≠0)(hr:ki.wrap (p.tdiv q)=r)(hd:Nat.blt d n=true)(k:LW P n c ops Q rest ((d,.int ki r)::e) h) :
 LW P n c ops Q (⟨some d,.binOp .quo xt x y yt,ty,pos,af,none⟩::rest) e h:=LW.int2 hx hy (fun w=>by subst hr;simp [binOp,Op.intDiv,h0]) hd k
theorem LW.rem (r:Int)(hx:e.ev x=some (.int ki p))(hy:e.ev y=some (.int ki q))(h0:q≠0)(hr:p.tmod q=r)(hd:Nat.blt d n=true)(k:LW P n c ops Q rest ((d,.int ki r)::e) h) :
 LW P n c ops Q (⟨some d,.binOp .rem xt x y yt,ty,pos,af,none⟩::rest) e h:=LW.int2 hx hy (fun w=>by subst hr;simp [binOp,Op.intDiv,h0]) hd k
theorem LW.and_ (r:Int)(hx:e.ev x=some (.int ki p))(hy:e.ev y=some (.int ki q))(hr:bits .and ki p q=r)(hd:Nat.blt d n=true)(k:LW P n c ops Q rest ((d,.int ki r)::e) h) :
 LW P n c ops Q (⟨some d,.binOp .and xt x y yt,ty,pos,af,none⟩::rest) e h:=LW.int2 hx hy (fun w=>by subst hr;simp [binOp,intBits_and]) hd k
theorem LW.or_ (r:Int)(hx:e.ev x=some (.int ki p))(hy:e.ev y=some (.int ki q))(hr:bits .or ki p q=r)(hd:Nat.blt d n=true)(k:LW P n c ops Q rest ((d,.int ki r)::e) h) :
 LW P n c ops Q (⟨some d,.binOp .or xt x y yt,ty,pos,af,none⟩::rest) e h:=LW.int2 hx hy (fun w=>by subst hr;simp [binOp,intBits_or]) hd k
theorem LW.shl {ky:IntKind}(r:Int)(hx:e.ev x=some (.int ki p))(hy:e.ev y=some (.int ky q))(h0:0<=q)(hr:ki.wrap (p*2 ^ min q.toNat ki.bits)=r)(hd:Nat.blt d n=true)
  (k:LW P n c ops Q rest ((d,.int ki r)::e) h):LW P n c ops Q (⟨some d,.binOp .shl xt x y yt,ty,pos,af,none⟩::rest) e h:=
 LW.int2 hx hy (fun w=>by subst hr;simp [binOp,Op.shift,Int.not_lt.2 h0]) hd k
theorem LW.shr {ky:IntKind}(r:Int)(hx:e.ev x=some (.int ki p))(hy:e.ev y=some (.int ky q))(h0:0<=q)(hr:p.fdiv (2 ^ min q.toNat ki.bits)=r)(hd:Nat.blt d n=true)
  (k:LW P n c ops Q rest ((d,.int ki r)::e) h):LW P n c ops Q (⟨some d,.binOp .shr xt x y yt,ty,pos,af,none⟩::rest) e h:=
 LW.int2 hx hy (fun w=>by subst hr;simp [binOp,Op.shift,Int.not_lt.2 h0]) hd k
theorem LW.eql (r:Bool)(hx:e.ev x=some (.int ki p))(hy:e.ev y=some (.int ki q))(hr:(p==q)=r)(hd:Nat.blt d n=true)(k:LW P n c ops Q rest ((d,.bool r)::e) h) :
 LW P n c ops Q (⟨some d,.binOp .eql xt x y yt,ty,pos,af,none⟩::rest) e h:=LW.int2 hx hy (fun w=>by subst hr;simp [binOp,Op.intCmp]) hd k
theorem LW.neq (r:Bool)(hx:e.ev x=some (.int ki p))(hy:e.ev y=some (.int ki q))(hr:(p != q)=r)(hd:Nat.blt d n=true)(k:LW P n c ops Q rest ((d,.bool r)::e) h) :
 LW P n c ops Q (⟨some d,.binOp .neq xt x y yt,ty,pos,af,none⟩::rest) e h:=LW.int2 hx hy (fun w=>by subst hr;simp [binOp,Op.intCmp]) hd k
theorem LW.lss (r:Bool)(hx:e.ev x=some (.int ki p))(hy:e.ev y=some (.int ki q))(hr:decide (p<q)=r)(hd:Nat.blt d n=true)(k:LW P n c ops Q rest ((d,.bool r)::e) h) :
 LW P n c ops Q (⟨some d,.binOp .lss xt x y yt,ty,pos,af,none⟩::rest) e h:=LW.int2 hx hy (fun w=>by subst hr;simp [binOp,Op.intCmp]) hd k
theorem LW.leq (r:Bool)(hx:e.ev x=some (.int ki p))(hy:e.ev y=some (.int ki q))(hr:decide (p<=q)=r)(hd:Nat.blt d n=true)(k:LW P n c ops Q rest ((d,.bool r)::e) h) :
 LW P n c ops Q (⟨some d,.binOp .leq xt x y yt,ty,pos,af,none⟩::rest) e h:=LW.int2 hx hy (fun w=>by subst hr;simp [binOp,Op.intCmp]) hd k
theorem LW.gtr (r:Bool)(hx:e.ev x=some (.int ki p))(hy:e.ev y=some (.int ki q))(hr:decide (p>q)=r)(hd:Nat.blt d n=true)(k:LW P n c ops Q rest ((d,.bool r)::e) h) :
 LW P n c ops Q (⟨some d,.binOp .gtr xt x y yt,ty,pos,af,none⟩::rest) e h:=LW.int2 hx hy (fun w=>by subst hr;simp [binOp,Op.intCmp]) hd k
theorem LW.geq (r:Bool)(hx:e.ev x=some (.int ki p))(hy:e.ev y=some (.int ki q))(hr:decide (p>=q)=r)(hd:Nat.blt d n=true)(k:LW P n c ops Q rest ((d,.bool r)::e) h) :
 LW P n c ops Q (⟨some d,.binOp .geq xt x y yt,ty,pos,af,none⟩::rest) e h:=LW.int2 hx hy (fun w=>by subst hr;simp [binOp,Op.intCmp]) hd k
end ints
theorem LW.convInt {src dst:Nat}{x:Operand}{kx kd:IntKind}{p:Int}{ds:TypeDesc}(r:Int)(hx:e.ev x=some (.int kx p))(hs:P.underlying src=some ds)(hd':P.underlying dst=some (.int kd))(hr:kd.wrap p=r)
  (hd:Nat.blt d n=true) (k:LW P n c ops Q rest ((d,.int kd r)::e) h):LW P n c ops Q (⟨some d,.convert src dst x,ty,pos,af,none⟩::rest) e h:=
 LW.val _ hd (fun a w hf _=>by subst hr;simp [execOp,hf.eval hx,convert,run_underlying hs,run_underlying hd',Conv.intToInt]) k
theorem LW.ptrNil {xt yt el:Nat}{x:Operand}{p:Option Addr}(r:Bool)(hx:e.ev x=some (.pointer p))(ht:P.underlying xt=some (.pointer el))(hr:p.isNone=r)(hd:Nat.blt d n=true)(k:LW P n c ops Q rest ((d,.bool r)::e) h) :
  LW P n c ops Q (⟨some d,.binOp .eql xt x (.const (.pointer none)) yt,ty,pos,af,none⟩::rest) e h:=
 LW.val _ hd (fun a w hf _=>by
  subst hr
  have he:a.eval (.const (.pointer none))=.pointer none:=rfl
  have hq:∀ m,(Op.equalIn (m+1) xt (.pointer p) (.pointer none)).run P w=.ok p.isNone w:=fun m=>by
   cases p<;>simp [Op.equalIn,run_underlying ht]
  cases p<;>simp [execOp,hf.eval hx,he,eqGuard_at_pointer,binOp,Op.equal,Op.maxDepth,hq 9999,Result.andThen]) k
theorem LW.ptrNotNil {xt yt el:Nat}{x:Operand}{p:Option Addr}(r:Bool)(hx:e.ev x=some (.pointer p))(ht:P.underlying xt=some (.pointer el))(hr:p.isSome=r)(hd:Nat.blt d n=true)(k:LW P n c ops Q rest ((d,.bool r)::e) h) :
  LW P n c ops Q (⟨some d,.binOp .neq xt x (.const (.pointer none)) yt,ty,pos,af,none⟩::rest) e h:=
 LW.val _ hd (fun a w hf _=>by
  subst hr
  have he:a.eval (.const (.pointer none))=.pointer none:=rfl
  have hq:∀ m,(Op.equalIn (m+1) xt (.pointer p) (.pointer none)).run P w=.ok p.isNone w:=fun m=>by
   cases p<;>simp [Op.equalIn,run_underlying ht]
  cases p<;>simp [execOp,hf.eval hx,he,eqGuard_at_pointer,binOp,Op.equal,Op.maxDepth,hq 9999,Result.andThen]) k
theorem LW.ifaceNil {xt yt:Nat}{x:Operand}{v:Value}{ms:Array (String×TypeId)}(r:Bool)(hx:e.ev x=some v)(ht:P.underlying xt=some (.interface ms))(hv:(v=.nilIface/\r=true)\/((∃ t u,v=.iface t u)/\r=false))(hd:Nat.blt d n=true)
  (k:LW P n c ops Q rest ((d,.bool r)::e) h):LW P n c ops Q (⟨some d,.binOp .eql xt x (.const .nilIface) yt,ty,pos,af,none⟩::rest) e h:=
 LW.val _ hd (fun a w hf _=>by
  have he:a.eval (.const .nilIface)=.nilIface:=rfl
  rcases hv with ⟨rfl,rfl⟩ | ⟨⟨t,u,rfl⟩,rfl⟩
  . have hq:∀ m,(Op.equalIn (m+1) xt .nilIface .nilIface).run P w=.ok true w:=fun m=>by simp [Op.equalIn,run_underlying ht]
    simp [execOp,hf.eval hx,he,eqGuard_nil_constR,binOp,Op.equal,Op.maxDepth,hq 9999,Result.andThen]
  . have hq:∀ m,(Op.equalIn (m+1) xt (.iface t u) .nilIface).run P w=.ok false w:=fun m=>by simp [Op.equalIn,run_underlying ht]
    simp [execOp,hf.eval hx,he,eqGuard_at_iface,binOp,Op.equal,Op.maxDepth,hq 9999,Result.andThen]) k
theorem LW.ifaceNotNil {xt yt:Nat}{x:Operand}{v:Value}{ms:Array (String×TypeId)}(r:Bool)(hx:e.ev x=some v)(ht:P.underlying xt=some (.interface ms))(hv:(v=.nilIface/\r=false)\/((∃ t u,v=.iface t u)/\r=true))(hd:Nat.blt d n=true)
  (k:LW P n c ops Q rest ((d,.bool r)::e) h):LW P n c ops Q (⟨some d,.binOp .neq xt x (.const .nilIface) yt,ty,pos,af,none⟩::rest) e h:=
 LW.val _ hd (fun a w hf _=>by
  have he:a.eval (.const .nilIface)=.nilIface:=rfl
  rcases hv with ⟨rfl,rfl⟩ | ⟨⟨t,u,rfl⟩,rfl⟩
  . have hq:∀ m,(Op.equalIn (m+1) xt .nilIface .nilIface).run P w=.ok true w:=fun m=>by simp [Op.equalIn,run_underlying ht]
    simp [execOp,hf.eval hx,he,eqGuard_nil_constR,binOp,Op.equal,Op.maxDepth,hq 9999,Result.andThen]
  . have hq:∀ m,(Op.equalIn (m+1) xt (.iface t u) .nilIface).run P w=.ok false w:=fun m=>by simp [Op.equalIn,run_underlying ht]
    simp [execOp,hf.eval hx,he,eqGuard_at_iface,binOp,Op.equal,Op.maxDepth,hq 9999,Result.andThen]) k
theorem LW.mkIface {xt:Nat}{x:Operand}{v:Value}(hx:e.ev x=some v)(ht:P.concrete xt=true)(hd:Nat.blt d n=true)(k:LW P n c ops Q rest ((d,.iface xt v)::e) h) :
  LW P n c ops Q (⟨some d,.makeInterface xt x,ty,pos,af,none⟩::rest) e h:=
 LW.val _ hd (fun a w hf _=>by simp [execOp,hf.eval hx,run_makeInterface _ xt v ht]) k
theorem LW.fieldAddr {s i:Nat}{x:Operand}{b o:Nat}(o':Nat)(hx:e.ev x=some (.pointer (some ⟨b,o,none⟩)))
  (hf':∀ w,(Instr.fieldAt s (.pointer (some ⟨b,o,none⟩)) i).run P w=.ok (.pointer (some ⟨b,o',none⟩)) w) (hd:Nat.blt d n=true) (k:LW P n c ops Q rest ((d,.pointer (some ⟨b,o',none⟩))::e) h) :
  LW P n c ops Q (⟨some d,.fieldAddr s x i,ty,pos,af,none⟩::rest) e h:=
 LW.val _ hd (fun a w hf _=>by simp [execOp,hf.eval hx,hf']) k
theorem LW.lenSlice {t:Nat}{x:Operand}{A:Option Addr}{l cp el:Nat}(hx:e.ev x=some (.slice A l cp))(ht:P.underlying t=some (.slice el))(hd:Nat.blt d n=true)(k:LW P n c ops Q rest ((d,.int .i64 (l:Int))::e) h) :
  LW P n c ops Q (⟨some d,.call { callee:=.builtin .len,args:=#[x],argTypes:=#[t] },ty,pos,af,none⟩::rest) e h:=
 LW.val _ hd (fun a w hf _=>by simp [execOp,resolve,invoke,builtin,hf.eval hx,Builtin.len_,run_underlying ht,goInt]) k
theorem LW.lenString {t:Nat}{x:Operand}{s:ByteArray}(hx:e.ev x=some (.string s))(ht:P.underlying t=some .string)(hd:Nat.blt d n=true)(k:LW P n c ops Q rest ((d,.int .i64 (s.size:Int))::e) h) :
  LW P n c ops Q (⟨some d,.call { callee:=.builtin .len,args:=#[x],argTypes:=#[t] },ty,pos,af,none⟩::rest) e h:=
 LW.val _ hd (fun a w hf _=>by simp [execOp,resolve,invoke,builtin,hf.eval hx,Builtin.len_,run_underlying ht,goInt]) k
theorem LW.indexAddr {t el sz:Nat}{x y:Operand}{b o l cp:Nat}{ki:IntKind}{p:Int}(o':Nat)(hx:e.ev x=some (.slice (some ⟨b,o,none⟩) l cp))(hy:e.ev y=some (.int ki p))(ht:P.underlying t=some (.slice el))
  (hsz:(P.info? el).map (·.size)=some sz) (h0:0<=p) (h1:p<(l:Int)) (ho:o+p.toNat*sz=o') (hd:Nat.blt d n=true) (k:LW P n c ops Q rest ((d,.pointer (some ⟨b,o',none⟩))::e) h) :
  LW P n c ops Q (⟨some d,.indexAddr t x y,ty,pos,af,none⟩::rest) e h:=
 LW.val _ hd (fun a w hf _=>by
  subst ho
  obtain⟨i,hi,rfl⟩:=Option.map_eq_some_iff.1 hsz
  simp [execOp,hf.eval hx,hf.eval hy,Instr.indexAt,run_underlying ht,asIntOf,h0,h1,sizeOf,typeInfo,hi,Addr.add_lit]) k
end plain
theorem St.row {w:World}{r:Row}{h':Heap}(s:St c h w)(t:Take [r] h h'):w.heap[r.b]?=some r.o:=
 (s.ext.rows.2 r ((List.Perm.mem_iff t).1 (by simp))).2
theorem St.drewN {w:World}(s:St c h w)(m:Nat):St c h (w.drewN m):=
 ⟨⟨s.old.os,s.old.tape,s.old.output,s.old.le,s.old.block⟩,⟨s.ext.os,s.ext.tape,s.ext.output,s.ext.size,s.ext.rows,s.ext.frame,s.ext.blocks⟩⟩
theorem St.drew {w:World}(s:St c h w):St c h w.drew:=s.drewN 1
theorem St.alloc {w:World}(s:St c h w)(o:Obj):St c ([⟨w.heap.size,o⟩]::h) (w.alloc o):=by
 have hold:∀ b,b<w.heap.size->(w.alloc o).heap[b]?=w.heap[b]?:=fun b hb=>Below.heap_alloc w o b hb
 have hnew:(w.alloc o).heap[w.heap.size]?=some o:=heap_alloc_new w o
 refine⟨⟨s.old.os,s.old.tape,s.old.output,by simp;have:=s.old.le;omega,fun b hb=>(hold b (by have:=s.old.le;omega)).trans (s.old.block b hb)⟩,?_⟩
 refine⟨s.ext.os,s.ext.tape,s.ext.output,by simp;have:=s.ext.size;omega,?_,fun b hb hn=>(hold b (by have:=s.ext.size;omega)).trans (s.ext.frame b hb hn),?_⟩
 . refine⟨?_,?_⟩
   . simp only [List.flatten_cons,List.singleton_append,List.map_cons,List.nodup_cons]
     refine⟨fun hm=>?_,s.ext.rows.1⟩
     obtain⟨r,hr,hb⟩:=List.mem_map.1 hm
     have:=row_lt (s.ext.rows.2 r hr).2
     omega
   . intro r hr
     simp only [List.flatten_cons,List.singleton_append,List.mem_cons] at hr
     rcases hr with rfl | hr
     . exact⟨s.old.le,hnew⟩
     . exact⟨(s.ext.rows.2 r hr).1,(hold _ (row_lt (s.ext.rows.2 r hr).2)).trans (s.ext.rows.2 r hr).2⟩
 . intro r hr
   simp only [List.flatten_cons,List.singleton_append,List.mem_cons] at hr
   rcases hr with rfl | hr
   . exact .inr s.ext.size
   . exact s.ext.blocks r hr
theorem St.set {w w':World}{b:Nat}{o o':Obj}{h':Heap}(s:St c h w)(t:Take [⟨b,o⟩] h h')(hos:w'.os=w.os)(htape:w'.tape=w.tape)(hout:w'.output=w.output)(hsz:w'.heap.size=w.heap.size)
   (hb:w'.heap[b]?=some o') (hk:∀ k,k≠b->w'.heap[k]?=w.heap[k]?):St c ([⟨b,o'⟩]::h') w':=by
 have hperm:((⟨b,o⟩:Row)::h'.flatten).Perm h.flatten:=by simpa [Take] using t
 have hnd:(b::h'.flatten.map (·.b)).Nodup:=by
   have:=(hperm.map (·.b)).nodup_iff.2 s.ext.rows.1
   simpa using this
 rw [List.nodup_cons] at hnd
 have hin:(⟨b,o⟩:Row)∈h.flatten:=hperm.mem_iff.1 (by simp)
 have hbB:=(s.ext.rows.2 _ hin).1
 have hbl:=row_lt (s.ext.rows.2 _ hin).2
 have hsub:∀ r∈h'.flatten,r∈h.flatten:=fun r hr=>hperm.mem_iff.1 (List.mem_cons_of_mem _ hr)
 refine⟨⟨hos.trans s.old.os,htape.trans s.old.tape,hout.trans s.old.output,by rw [hsz];exact s.old.le,fun k hkB=>(hk k (by simp at hbB;omega)).trans (s.old.block k hkB)⟩,?_⟩
 refine⟨hos.trans s.ext.os,htape.trans s.ext.tape,hout.trans s.ext.output,by rw [hsz];exact s.ext.size,⟨?_,?_⟩,?_,?_⟩
 . simpa using hnd
 . intro r hr
   simp only [List.flatten_cons,List.singleton_append,List.mem_cons] at hr
   rcases hr with rfl | hr
   . exact⟨hbB,hb⟩
   . have hne:r.b≠b:=fun he=>hnd.1 (by rw [<- he];exact List.mem_map_of_mem hr)
     exact⟨(s.ext.rows.2 r (hsub r hr)).1,(hk _ hne).trans (s.ext.rows.2 r (hsub r hr)).2⟩
 . intro k hk0 hkn
   have hkb:k≠b:=fun he=>by
     subst he
     rcases s.ext.blocks _ hin with hp | hp
     . exact hkn hp
     . simp at hp;omega
   exact (hk k hkb).trans (s.ext.frame k hk0 hkn)
 . intro r hr
   simp only [List.flatten_cons,List.singleton_append,List.mem_cons] at hr
   rcases hr with rfl | hr
   . exact s.ext.blocks ⟨b,o⟩ hin
   . exact s.ext.blocks r (hsub r hr)
theorem St.setRow {w:World}{b:Nat}{t:TypeId}{l l':List Value}{h':Heap}(s:St c h w)(tk:Take [cr b t l] h h'):St c ([cr b t l']::h') (w.setRow b l'.toArray):=
 s.set tk rfl rfl rfl (setRow_size _ _ _) (setRow_heap w b _ _ t (0,0) (s.row tk)) (fun k hk=>setRow_other w b k _ hk)
theorem St.setCell {w:World}{b i:Nat}{t:TypeId}{l:List Value}{v:Value}{h':Heap}(s:St c h w)(tk:Take [cr b t l] h h'):St c ([cr b t (l.set i v)]::h') (w.setCell ⟨b,i,none⟩ v):=by
 rw [setCell_eq_setRow w b i l.toArray t (0,0) v (s.row tk)]
 have:l.toArray.setIfInBounds i v=(l.set i v).toArray:=by simp
 rw [this]
 exact s.setRow tk
theorem St.cell {w:World}{b i:Nat}{t:TypeId}{l:List Value}{v:Value}{h':Heap}(s:St c h w)(tk:Take [cr b t l] h h')(hv:l[i]?=some v):w.cell? ⟨b,i,none⟩=some v:=by
 rw [cell_of_row w b i l.toArray t (0,0) (s.row tk)]
 simpa using hv
theorem St.oldCell {w:World}(s:St c h w){p:Addr}(hp:p.block<c.B):w.cell? p=c.W.cell? p:=World.cell?_of_block (w:=c.W) (s.old.block p.block hp)
section mem
variable {d ty:Nat}{pos:String}{af:Array Edge}
def oneB (P:Program)(t:TypeId):Bool:=match P.underlying t with
 | some (.struct _) | some (.array _ _) | none=>false
 | _=>true
theorem run_isAgg_one {t:TypeId}(ht:oneB P t=true)(w:World):(isAgg t).run P w=.ok false w:=by
 unfold oneB at ht
 unfold isAgg
 cases hu:P.underlying t with
 | none=>simp [hu] at ht
 | some q=>
  rw [Sem.run_bind,run_underlying hu w]
  cases q<;>simp_all
theorem run_loadAt_one {t:TypeId}(ht:oneB P t=true){w:World}{p:Addr}{v:Value}(hv:w.cell? p=some v):(Instr.loadAt t (.pointer (some p))).run P w=.ok v w:=by
 simp [Instr.loadAt,Instr.sureAddr,loadVar,run_isAgg_one ht,hv]
theorem LW.load {t:Nat}{x:Operand}{b o:Nat}{u:TypeId}{l:List Value}{v:Value}{h':Heap}(hx:e.ev x=some (.pointer (some ⟨b,o,none⟩)))(tk:Take [cr b u l] h h')(hv:l[o]?=some v)(ht:oneB P t=true)
  (hd:Nat.blt d n=true) (k:LW P n c ops Q rest ((d,v)::e) h):LW P n c ops Q (⟨some d,.load t x,ty,pos,af,none⟩::rest) e h:=
 LW.val v hd (fun a w hf s=>by simp [execOp,hf.eval hx,run_loadAt_one ht (s.cell tk hv)]) k
theorem LW.loadOld {t:Nat}{x:Operand}{p:Addr}{v:Value}(hx:e.ev x=some (.pointer (some p)))(hp:p.block<c.B)(hv:c.W.cell? p=some v)(ht:oneB P t=true)
  (hd:Nat.blt d n=true) (k:LW P n c ops Q rest ((d,v)::e) h):LW P n c ops Q (⟨some d,.load t x,ty,pos,af,none⟩::rest) e h:=
 LW.val v hd (fun a w hf s=>by simp [execOp,hf.eval hx,run_loadAt_one ht ((s.oldCell hp).trans hv)]) k
theorem run_loadAt_agg {t:TypeId}{w:World}{b o:Nat}{td:TypeDesc}{cs:List Value}(hu:P.underlying t=some td)(hg:(match td with | .struct _ | .array _ _=>true | _=>false)=true)(hz:(P.info? t).map (·.size)=some cs.length)
  (hv:∀ j v,cs[j]?=some v->w.cell? ⟨b,o+j,none⟩=some v):(Instr.loadAt t (.pointer (some ⟨b,o,none⟩))).run P w=.ok (.agg cs.toArray) w:=by
 obtain⟨i,hi,hs⟩:=Option.map_eq_some_iff.1 hz
 have hagg:(isAgg t).run P w=.ok true w:=by
  unfold isAgg
  rw [Sem.run_bind,run_underlying hu w]
  cases td<;>simp_all
 have hl:=run_loadCells_list (P:=P) w ⟨b,o,none⟩ cs (fun j v hj=>by rw [Addr.add_mid];exact hv j v hj)
 simp [Instr.loadAt,Instr.sureAddr,loadVar,hagg,sizeOf,typeInfo,hi,hs,hl]
theorem LW.loadAgg {t:Nat}{x:Operand}{b o:Nat}{u:TypeId}{l:List Value}{td:TypeDesc}{h':Heap}(cs:List Value)(hx:e.ev x=some (.pointer (some ⟨b,o,none⟩)))(tk:Take [cr b u l] h h')
  (hv:∀ j v,cs[j]?=some v->l[o+j]?=some v) (hu:P.underlying t=some td) (hg:(match td with | .struct _ | .array _ _=>true | _=>false)=true) (hz:(P.info? t).map (·.size)=some cs.length)
  (hd:Nat.blt d n=true) (k:LW P n c ops Q rest ((d,.agg cs.toArray)::e) h):LW P n c ops Q (⟨some d,.load t x,ty,pos,af,none⟩::rest) e h:=
 LW.val _ hd (fun a w hf s=>by simp [execOp,hf.eval hx,run_loadAt_agg hu hg hz (fun j v hj=>s.cell tk (hv j v hj))]) k
theorem run_storeAt_one {t:TypeId}{w:World}{p:Addr}{v old:Value}(hz:(P.info? t).map (·.size)=some 1)(h1:v.oneCell'=true)(hv:w.cell? p=some old)(hfz:w.frozen? p=false) :
  (Instr.storeAt t (.pointer (some p)) v).run P w=.ok () (w.setCell p v):=by
 obtain⟨i,hi,hs⟩:=Option.map_eq_some_iff.1 hz
 have hc:v.cells=#[v]:=by cases v<;>first | rfl | cases h1
 simp [Instr.storeAt,Instr.sureAddr,storeVar,sizeOf,typeInfo,hi,hs,hc,storeCells,Addr.add_zero',run_store P w p v _ h1,hv,hfz]
theorem LW.store {t:Nat}{x y:Operand}{b o:Nat}{u:TypeId}{l:List Value}{v:Value}{h':Heap}(hx:e.ev x=some (.pointer (some ⟨b,o,none⟩)))(hy:e.ev y=some v)(tk:Take [cr b u l] h h')(ho:o<l.length)
  (hz:(P.info? t).map (·.size)=some 1) (h1:v.oneCell'=true) (k:LW P n c ops Q rest e ([cr b u (l.set o v)]::h')):LW P n c ops Q (⟨none,.store t x y,ty,pos,af,none⟩::rest) e h:=
 LW.skipAct (.inl rfl) fun a w hf s=>⟨_,w.setCell ⟨b,o,none⟩ v,by
  have hc:=s.cell (i:=o) tk (List.getElem?_eq_getElem ho)
  have hfz:w.frozen? ⟨b,o,none⟩=false:=frozen_of_row w b o l.toArray u (s.row tk)
  simp [execOp,hf.eval hx,hf.eval hy,run_storeAt_one hz h1 hc hfz],s.setCell tk,k⟩
theorem LW.alloc {t:Nat}{z:Value}(hz:(P.info? t).bind (·.zero)=some z)(hd:Nat.blt d n=true)
  (k:∀ b,LW P n c ops Q rest ((d,.pointer (some ⟨b,0,none⟩))::e) ([cr b t z.cells.toList]::h)):LW P n c ops Q (⟨some d,.alloc t,ty,pos,af,none⟩::rest) e h:=
 LW.act hd fun a w hf s=>⟨.pointer (some ⟨w.heap.size,0,none⟩),_,w.alloc (.cells z.cells t),by
  obtain⟨i,hi,hz'⟩:=Option.bind_eq_some_iff.1 hz
  simp [execOp,Instr.alloc,zeroValue,typeInfo,hi,hz',newVar,newRow],s.alloc _,by simpa using k w.heap.size⟩
theorem LW.box {t:Nat}{x:Operand}{v:Value}(hx:e.ev x=some v)(hd:Nat.blt d n=true)(k:∀ b,LW P n c ops Q rest ((d,.pointer (some ⟨b,0,none⟩))::e) ([cr b t v.cells.toList]::h)) :
  LW P n c ops Q (⟨some d,.box t x,ty,pos,af,none⟩::rest) e h:=
 LW.act hd fun a w hf s=>⟨.pointer (some ⟨w.heap.size,0,none⟩),_,w.alloc (.cells v.cells t),by simp [execOp,hf.eval hx,Instr.box,newVar,newRow],s.alloc _,by simpa using k w.heap.size⟩
theorem LW.build {t:Nat}{parts:List (Nat×Operand)}{vs:List Value}(cs:Array Value)(hp:e.Evs (parts.map (·.2)) vs)(hb:P.built t ((parts.map (·.1)).zip vs)=some cs)(hd:Nat.blt d n=true)
  (k:LW P n c ops Q rest ((d,.agg cs)::e) h):LW P n c ops Q (⟨some d,.build t parts.toArray,ty,pos,af,none⟩::rest) e h:=
 LW.val _ hd (fun a w hf _=>by
  have h1:=hp.map hf
  have h2:(parts.toArray.map fun (i,x)=>(i,a.eval x)).toList=(parts.map (·.1)).zip vs:=by
   rw [<- h1,List.map_map,List.zip_map']
   simp
  have hr:=run_build w t (parts.toArray.map fun (i,x)=>(i,a.eval x)) cs (by rw [h2];exact hb)
  simp only [execOp,Sem.run_bind,hr,Result.andThen_ok];rfl) k
theorem St.called {pre post:List Row}{h':Heap}{w w':World}(s:St c h w)(tk:Take pre h h')(hx:Ext c.B w (pre.map (·.b)) post w'):St c (post::h') w':=by
 have hpre:RowsOk c.B pre w:=s.ext.rows.sub ⟨h'.flatten,tk⟩
 have hold:=s.old.trans hpre hx
 have hperm:(pre++h'.flatten).Perm h.flatten:=tk
 have hnd:(pre.map (·.b)++h'.flatten.map (·.b)).Nodup:=by
   have:=(hperm.map (·.b)).nodup_iff.2 s.ext.rows.1
   rwa [List.map_append] at this
 rw [List.nodup_append] at hnd
 have hsub:∀ r∈h'.flatten,r∈h.flatten:=fun r hr=>hperm.mem_iff.1 (List.mem_append_right _ hr)
 have hpsub:∀ r∈pre,r∈h.flatten:=fun r hr=>hperm.mem_iff.1 (List.mem_append_left _ hr)
 refine⟨hold,hx.os.trans s.ext.os,hx.tape.trans s.ext.tape,hx.output.trans s.ext.output,Nat.le_trans s.ext.size hx.size,⟨?_,?_⟩,?_,?_⟩
 . simp only [List.flatten_cons,List.map_append]
   rw [List.nodup_append]
   refine⟨hx.rows.1,hnd.2.1,?_⟩
   intro b hb b' hb' hbb
   subst hbb
   obtain⟨r,hr,rfl⟩:=List.mem_map.1 hb
   obtain⟨r',hr',hrr⟩:=List.mem_map.1 hb'
   rcases hx.blocks r hr with hp | hp
   . exact hnd.2.2 _ hp _ (List.mem_map_of_mem hr') hrr.symm
   . have:=row_lt (s.ext.rows.2 r' (hsub r' hr')).2
     omega
 . intro r hr
   simp only [List.flatten_cons,List.mem_append] at hr
   rcases hr with hr | hr
   . exact hx.rows.2 r hr
   . have hlt:=row_lt (s.ext.rows.2 r (hsub r hr)).2
     have hn:r.b∉pre.map (·.b):=fun hm=>hnd.2.2 _ hm _ (List.mem_map_of_mem hr) rfl
     exact⟨(s.ext.rows.2 r (hsub r hr)).1,(hx.frame _ hlt hn).trans (s.ext.rows.2 r (hsub r hr)).2⟩
 . intro b hb hn
   have hp:b∉pre.map (·.b):=fun hm=>by
     obtain⟨r,hr,rfl⟩:=List.mem_map.1 hm
     rcases s.ext.blocks r (hpsub r hr) with hq | hq
     . exact hn hq
     . omega
   exact (hx.frame b (by have:=s.ext.size;omega) hp).trans (s.ext.frame b hb hn)
 . intro r hr
   simp only [List.flatten_cons,List.mem_append] at hr
   rcases hr with hr | hr
   . rcases hx.blocks r hr with hp | hp
     . obtain⟨r',hr',hrr⟩:=List.mem_map.1 hp
       rw [<- hrr]
       exact s.ext.blocks r' (hpsub r' hr')
     . exact .inr (Nat.le_trans s.ext.size hp)
   . exact s.ext.blocks r (hsub r hr)
theorem LW.call {f:Nat}{fn:Func}{code:Code}{xs:List Operand}{ats:Array TypeId}{args:List Value}{pre:List Row}{R:Value->List Row->Prop}{h':Heap}(spec:Spec P c.W c.B f args pre R)
  (hfn:P.funcs[f]?=some fn) (hbody:fn.body=some code) (hname:(fn.name == "runtime.NumGoroutine")=false) (hargs:e.Evs xs args) (tk:Take pre h h') (hd:Nat.blt d n=true)
  (k:∀ v post,R v post->LW P n c ops Q rest ((d,v)::e) (post::h')) :
  LW P n c ops Q (⟨some d,.call { callee:=.value (.func f),args:=xs.toArray,argTypes:=ats },ty,pos,af,none⟩::rest) e h:=fun a w hf s=>
 wpList_plain rfl fun K hK=>by
  have hmap:xs.toArray.map a.eval=args.toArray:=by
   apply Array.ext'
   simpa using hargs.map hf
  have hrun:(execOp a.eval ⟨some d,.call { callee:=.value (.func f),args:=xs.toArray,argTypes:=ats },ty,pos,af,none⟩).run P w=.ok (.enter f args.toArray) w:=by
   have he:a.eval (.func f)=.func (.func f) #[] #[]:=rfl
   have hn:¬ fn.name = "runtime.NumGoroutine" := by simpa using hname
   simp only [execOp,resolve,he,Deferred.ofValue,hmap]
   simp [invoke,callFunc,hfn,hbody,hn]
  have hpre:RowsOk c.B pre w:=s.ext.rows.sub ⟨h'.flatten,tk⟩
  unfold Oper.wp
  rw [hrun,Oper.upon_enter]
  refine (spec w s.old hpre).mono ?_
  rintro _ w' ⟨v,post,rfl,hR,hx⟩
  exact hK _ _ (k v post hR _ _ (hf.put d v hd) (s.called tk hx))
end mem
end
end Go.Proofs.YtnlpccoigflheaaGreatDoor
