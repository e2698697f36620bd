/- Draw -/
import Derived.Test.YtnlpccoigflheaaGreatDoorOps
import Derived.Deep.Quiet
namespace Go.Proofs.YtnlpccoigflheaaGreatDoor
open Go.RowKit
def PO (Q:Exit->Act->World->Prop):Prop:=∀ ch d v a w,Q (.panic ch) (a.put d v) w->Q (.panic ch) a w
theorem PO.body {P:Program}{fn:Func}{R:Ending->World->Prop}:PO (bodyPost P fn R):=fun ch d v a w h=>by
 cases d<;>exact h
theorem PO.then_ {K:Act->World->Prop}{Q:Exit->Act->World->Prop}(h:PO Q):PO (Exit.then K Q):=fun ch d v a w k=>h ch d v a w k
theorem PO.block {id:Nat}{Q:Exit->Act->World->Prop}(h:PO Q):PO (Exit.inBlock id Q):=fun ch d v a w k=>h ch d v a w k
theorem PO.noGoto {Q:Exit->Act->World->Prop}(h:PO Q):PO (Exit.noGoto Q):=fun ch d v a w k=>h ch d v a w k
theorem Sub.cons1 {a:Row}{t:List Row}{h h1:Heap}(k:Take [a] h h1)(s:Sub t h1.flatten):Sub (a::t) h.flatten:=Sub.take (p:=[a]) k s
def Held (c:Ctx)(hs:List Row)(w:World):Prop:=Old c.W c.B w/\∀ r∈hs,w.heap[r.b]?=some r.o
theorem Held.of {c:Ctx}{hs:List Row}{h:Heap}{w:World}(s:St c h w)(k:Sub hs h.flatten):Held c hs w:=⟨s.old,fun r hr=>(s.ext.rows.2 r (k.mem hr)).2⟩
def Yl (P:Program)(n:Nat)(S:World->Prop)(e:Env)(o:Oper)(v:Value):Prop:=∀ a w,Fr n e a->S w->(execOp a.eval o).run P w=.ok (.value v) w
section
variable (P:Program)(n:Nat)(c:Ctx)
def AW (ops:Array Oper)(Q:Exit->Act->World->Prop)(S:World->Prop)(fuel:Nat)(listed:Array Bool)(e:Env)(h:Heap):Prop:=∀ a w,Fr n e a->St c h w->wpAnyH P .any ops Q S fuel listed a w
def AWs (ops:Array Oper)(Q:Exit->Act->World->Prop)(S:World->Prop)(fuel:Nat)(listed:Array Bool)(rs:List Nat)(e:Env)(h:Heap):Prop:=
 ∀ i∈rs,∀ a w,Fr n e a->St c h w->wpOp P ops Q i (fun a' w'=>S w'/\wpAnyH P .any ops Q S fuel (listed.setIfInBounds i true) a' w') a w
end
section
variable {P:Program}{n:Nat}{c:Ctx}{Q:Exit->Act->World->Prop}{e:Env}{h:Heap}{ops:Array Oper}{S:World->Prop}{fuel:Nat}{listed:Array Bool}
theorem CW.draw (S:World->Prop){id:Nat}(hm:P.follows .mixedOrders=true)(k:AW P n c ops Q S ops.size (Array.replicate ops.size false) e h):CW P n c (.region id ops true) Q e h:=
 fun a _w hf hs=>wp_region_held hm (k a _ hf hs.drew)
theorem CW.drawH (hs:List Row){id:Nat}(hm:P.follows .mixedOrders=true)(k:AW P n c ops Q (Held c hs) ops.size (Array.replicate ops.size false) e h):CW P n c (.region id ops true) Q e h:=CW.draw _ hm k
theorem wpOp_of_list {i:Nat}{o:Oper}{K:Act->World->Prop}{a:Act}{w:World}(hi:ops[i]?=some o)(h:wpList P ops (Exit.then K Q) [o] a w):wpOp P ops Q i K a w:=by
 unfold wpOp
 simp only [hi]
 unfold wpList at h
 split
 . rename_i hw
   rw [if_pos hw] at h
   rcases h with h | ⟨h1,h2⟩
   . refine .inl ?_
     unfold Oper.wp at *
     have hn:(wpList P ops (Exit.then K Q) [])=K:=rfl
     rw [hn] at h
     generalize (execOp a.eval o).run P w=r at *
     cases r with
     | ok x w'=>cases x<;>exact h
     | halt x w'=>cases x<;>exact h
   . exact .inr ⟨h1,h2⟩
 . rename_i hw
   rw [if_neg hw] at h
   exact h
theorem AW.act {o:Oper}(i:Nat)(hr:Region.ready .any ops listed=[i])(hi:ops[i]?=some o)
  (k:LW P n c ops (Exit.then (fun a' w'=>S w'/\wpAnyH P .any ops Q S fuel (listed.setIfInBounds i true) a' w') Q) [o] e h):AW P n c ops Q S (fuel+1) listed e h:=fun a w hf hs=>
 wpAnyH_all hr (by simp) fun j hj=>by
  have hji:j=i:=by simpa using hj
  subst hji
  exact wpOp_of_list hi (k a w hf hs)
theorem AW.all (rs:List Nat)(hr:Region.ready .any ops listed=rs)(hne:rs.isEmpty=false)(k:AWs P n c ops Q S fuel listed rs e h):AW P n c ops Q S (fuel+1) listed e h:=fun a w hf hs=>
 wpAnyH_all hr (by cases rs<;>simp_all) fun j hj=>k j hj a w hf hs
theorem AWs.nil:AWs P n c ops Q S fuel listed [] e h:=fun _ hi=>by cases hi
theorem AWs.cons {o:Oper}{i:Nat}{rs:List Nat}(hi:ops[i]?=some o)
   (k:LW P n c ops (Exit.then (fun a' w'=>S w'/\wpAnyH P .any ops Q S fuel (listed.setIfInBounds i true) a' w') Q) [o] e h) (kr:AWs P n c ops Q S fuel listed rs e h):AWs P n c ops Q S fuel listed (i::rs) e h:=fun j hj a w hf hs=>by
 rcases List.mem_cons.1 hj with rfl | hj
 . exact wpOp_of_list hi (k a w hf hs)
 . exact kr j hj a w hf hs
theorem AW.back (hS:∀ w,St c h w->S w)(k:AW P n c ops Q S fuel listed e h):NW n c .normal (Exit.then (fun a' w'=>S w'/\wpAnyH P .any ops Q S fuel listed a' w') Q) e h:=
 fun a w hf hs=>⟨hS w hs,k a w hf hs⟩
theorem AW.done (hr:Region.ready .any ops listed=[])(k:NW n c .normal Q e h):AW P n c ops Q S fuel listed e h:=fun a w hf hs=>wpAnyH_done hr (k a w hf hs) _
section y
variable {d ty:Nat}{pos:String}{af:Array Edge}
theorem Yl.move {x:Operand}{v:Value}(hx:e.ev x=some v):Yl P n S e ⟨some d,.move x,ty,pos,af,none⟩ v:=fun a w hf _=>by simp [execOp,hf.eval hx]
theorem Yl.assign {x:Operand}{v:Value}(hx:e.ev x=some v):Yl P n S e ⟨some d,.assign x,ty,pos,af,none⟩ v:=fun a w hf _=>by simp [execOp,hf.eval hx]
theorem Yl.nilPtr {x:Operand}{p:Addr}(hx:e.ev x=some (.pointer (some p))):Yl P n S e ⟨some d,.nilCheck x,ty,pos,af,none⟩ (.pointer (some p)):=fun a w hf _=>by simp [execOp,hf.eval hx]
theorem Yl.int2 {op:BinOp}{xt yt:Nat}{x y:Operand}{kx ky:IntKind}{p q:Int}{v:Value}(hx:e.ev x=some (.int kx p))(hy:e.ev y=some (.int ky q))
  (hv:∀ w,(binOp op xt (.int kx p) (.int ky q)).run P w=.ok v w):Yl P n S e ⟨some d,.binOp op xt x y yt,ty,pos,af,none⟩ v:=
 fun a w hf _=>by simp [execOp,hf.eval hx,hf.eval hy,hv,eqGuard_at_int,Result.andThen]
section ints
variable {xt yt:Nat}{x y:Operand}{ki:IntKind}{p q:Int}
theorem Yl.add (r:Int)(hx:e.ev x=some (.int ki p))(hy:e.ev y=some (.int ki q))(hr:ki.wrap (p+q)=r):Yl P n S e ⟨some d,.binOp .add xt x y yt,ty,pos,af,none⟩ (.int ki r):=
 Yl.int2 hx hy (fun w=>by subst hr;simp [binOp,Op.intArith])
theorem Yl.sub (r:Int)(hx:e.ev x=some (.int ki p))(hy:e.ev y=some (.int ki q))(hr:ki.wrap (p-q)=r):Yl P n S e ⟨some d,.binOp .sub xt x y yt,ty,pos,af,none⟩ (.int ki r):=
 Yl.int2 hx hy (fun w=>by subst hr;simp [binOp,Op.intArith])
theorem Yl.mul (r:Int)(hx:e.ev x=some (.int ki p))(hy:e.ev y=some (.int ki q))(hr:ki.wrap (p*q)=r):Yl P n S e ⟨some d,.binOp .mul xt x y yt,ty,pos,af,none⟩ (.int ki r):=
 Yl.int2 hx hy (fun w=>by subst hr;simp [binOp,Op.intArith])
theorem Yl.or_ (r:Int)(hx:e.ev x=some (.int ki p))(hy:e.ev y=some (.int ki q))(hr:bits .or ki p q=r):Yl P n S e ⟨some d,.binOp .or xt x y yt,ty,pos,af,none⟩ (.int ki r):=
 Yl.int2 hx hy (fun w=>by subst hr;simp [binOp,intBits_or])
theorem Yl.shl {ky:IntKind}(r:Int)(hx:e.ev x=some (.int ki p))(hy:e.ev y=some (.int ky q))(h0:0<=q)(hr:ki.wrap (p*2 ^ min q.toNat ki.bits)=r):Yl P n S e ⟨some d,.binOp .shl xt x y yt,ty,pos,af,none⟩ (.int ki r):=
 Yl.int2 hx hy (fun w=>by subst hr;simp [binOp,Op.shift,Int.not_lt.2 h0])
theorem Yl.shr {ky:IntKind}(r:Int)(hx:e.ev x=some (.int ki p))(hy:e.ev y=some (.int ky q))(h0:0<=q)(hr:p.fdiv (2 ^ min q.toNat ki.bits)=r):Yl P n S e ⟨some d,.binOp .shr xt x y yt,ty,pos,af,none⟩ (.int ki r):=
 Yl.int2 hx hy (fun w=>by subst hr;simp [binOp,Op.shift,Int.not_lt.2 h0])
theorem Yl.eql (r:Bool)(hx:e.ev x=some (.int ki p))(hy:e.ev y=some (.int ki q))(hr:(p==q)=r):Yl P n S e ⟨some d,.binOp .eql xt x y yt,ty,pos,af,none⟩ (.bool r):=
 Yl.int2 hx hy (fun w=>by subst hr;simp [binOp,Op.intCmp])
theorem Yl.neq (r:Bool)(hx:e.ev x=some (.int ki p))(hy:e.ev y=some (.int ki q))(hr:(p != q)=r):Yl P n S e ⟨some d,.binOp .neq xt x y yt,ty,pos,af,none⟩ (.bool r):=
 Yl.int2 hx hy (fun w=>by subst hr;simp [binOp,Op.intCmp])
theorem Yl.lss (r:Bool)(hx:e.ev x=some (.int ki p))(hy:e.ev y=some (.int ki q))(hr:decide (p<q)=r):Yl P n S e ⟨some d,.binOp .lss xt x y yt,ty,pos,af,none⟩ (.bool r):=
 Yl.int2 hx hy (fun w=>by subst hr;simp [binOp,Op.intCmp])
theorem Yl.leq (r:Bool)(hx:e.ev x=some (.int ki p))(hy:e.ev y=some (.int ki q))(hr:decide (p<=q)=r):Yl P n S e ⟨some d,.binOp .leq xt x y yt,ty,pos,af,none⟩ (.bool r):=
 Yl.int2 hx hy (fun w=>by subst hr;simp [binOp,Op.intCmp])
theorem Yl.gtr (r:Bool)(hx:e.ev x=some (.int ki p))(hy:e.ev y=some (.int ki q))(hr:decide (p>q)=r):Yl P n S e ⟨some d,.binOp .gtr xt x y yt,ty,pos,af,none⟩ (.bool r):=
 Yl.int2 hx hy (fun w=>by subst hr;simp [binOp,Op.intCmp])
theorem Yl.geq (r:Bool)(hx:e.ev x=some (.int ki p))(hy:e.ev y=some (.int ki q))(hr:decide (p>=q)=r):Yl P n S e ⟨some d,.binOp .geq xt x y yt,ty,pos,af,none⟩ (.bool r):=
 Yl.int2 hx hy (fun w=>by subst hr;simp [binOp,Op.intCmp])
end ints
theorem Yl.convInt {src dst:Nat}{x:Operand}{kx kd:IntKind}{p:Int}{ds:TypeDesc}(r:Int)(hx:e.ev x=some (.int kx p))(hs:P.underlying src=some ds)(hd':P.underlying dst=some (.int kd))(hr:kd.wrap p=r) :
 Yl P n S e ⟨some d,.convert src dst x,ty,pos,af,none⟩ (.int kd r):=fun a w hf _=>by subst hr;simp [execOp,hf.eval hx,convert,run_underlying hs,run_underlying hd',Conv.intToInt]
theorem Yl.fieldAddr {s i:Nat}{x:Operand}{b o:Nat}(o':Nat)(hx:e.ev x=some (.pointer (some ⟨b,o,none⟩)))
  (hf':∀ w,(Instr.fieldAt s (.pointer (some ⟨b,o,none⟩)) i).run P w=.ok (.pointer (some ⟨b,o',none⟩)) w):Yl P n S e ⟨some d,.fieldAddr s x i,ty,pos,af,none⟩ (.pointer (some ⟨b,o',none⟩)):=
 fun a w hf _=>by simp [execOp,hf.eval hx,hf']
theorem Yl.lenSlice {t:Nat}{x:Operand}{A:Option Addr}{l cp el:Nat}(hx:e.ev x=some (.slice A l cp))(ht:P.underlying t=some (.slice el)) :
  Yl P n S e ⟨some d,.call { callee:=.builtin .len,args:=#[x],argTypes:=#[t] },ty,pos,af,none⟩ (.int .i64 (l:Int)):=
 fun a w hf _=>by simp [execOp,resolve,invoke,builtin,hf.eval hx,Builtin.len_,run_underlying ht,goInt]
theorem Yl.indexAddr {t el sz:Nat}{x y:Operand}{b o l cp:Nat}{ki:IntKind}{p:Int}(o':Nat)(hx:e.ev x=some (.slice (some ⟨b,o,none⟩) l cp))(hy:e.ev y=some (.int ki p))(ht:P.underlying t=some (.slice el))
  (hsz:(P.info? el).map (·.size)=some sz) (h0:0<=p) (h1:p<(l:Int)) (ho:o+p.toNat*sz=o'):Yl P n S e ⟨some d,.indexAddr t x y,ty,pos,af,none⟩ (.pointer (some ⟨b,o',none⟩)):=
 fun a w hf _=>by
  subst ho
  obtain⟨i,hi,rfl⟩:=Option.map_eq_some_iff.1 hsz
  simp [execOp,hf.eval hx,hf.eval hy,Instr.indexAt,run_underlying ht,asIntOf,h0,h1,sizeOf,typeInfo,hi,Addr.add_lit]
theorem Yl.build {t:Nat}{parts:List (Nat×Operand)}{vs:List Value}(cs:Array Value)(hp:e.Evs (parts.map (·.2)) vs)(hb:P.built t ((parts.map (·.1)).zip vs)=some cs) :
  Yl P n S e ⟨some d,.build t parts.toArray,ty,pos,af,none⟩ (.agg cs):=fun a w hf _=>by
 have h1:=hp.map hf
 have h2:(parts.toArray.map fun (i,x)=>(i,a.eval x)).toList=(parts.map (·.1)).zip vs:=by
  rw [<- h1,List.map_map,List.zip_map']
  simp
 have hr:=run_build w t (parts.toArray.map fun (i,x)=>(i,a.eval x)) cs (by rw [h2];exact hb)
 simp only [execOp,Sem.run_bind,hr,Result.andThen_ok];rfl
theorem Yl.load {t:Nat}{x:Operand}{b o:Nat}{u:TypeId}{l:List Value}{v:Value}{hs:List Row}(hx:e.ev x=some (.pointer (some ⟨b,o,none⟩)))(hm:cr b u l∈hs)(hv:l[o]?=some v)(ht:oneB P t=true) :
  Yl P n (Held c hs) e ⟨some d,.load t x,ty,pos,af,none⟩ v:=fun a w hf hS=>by
 have hc:w.cell? ⟨b,o,none⟩=some v:=by
  rw [cell_of_row w b o l.toArray u (0,0) (hS.2 _ hm)]
  simpa using hv
 simp [execOp,hf.eval hx,run_loadAt_one ht hc]
theorem Yl.loadAgg {t:Nat}{x:Operand}{b o:Nat}{u:TypeId}{l:List Value}{td:TypeDesc}{hs:List Row}(cs:List Value)(hx:e.ev x=some (.pointer (some ⟨b,o,none⟩)))(hm:cr b u l∈hs)
  (hv:∀ j v,cs[j]?=some v->l[o+j]?=some v) (hu:P.underlying t=some td) (hg:(match td with | .struct _ | .array _ _=>true | _=>false)=true) (hz:(P.info? t).map (·.size)=some cs.length) :
  Yl P n (Held c hs) e ⟨some d,.load t x,ty,pos,af,none⟩ (.agg cs.toArray):=fun a w hf hS=>by
 have hl:=run_loadAt_agg (P:=P) (w:=w) (b:=b) (o:=o) hu hg hz (fun j v hj=>by
  rw [cell_of_row w b (o+j) l.toArray u (0,0) (hS.2 _ hm)]
  simpa using hv j v hj)
 simp [execOp,hf.eval hx,hl]
end y
def QW (P:Program)(n:Nat)(C:World->Prop)(ops:Array Oper)(Q:Exit->Act->World->Prop)(l:List Oper)(e:Env):Prop:=∀ a,Fr n e a->wpQuiet P ops C (fun a'=>∀ w',C w'->Q .normal a' w') l a
theorem CW.quiet {id:Nat}{l:List Oper}(hm:P.follows .mixedOrders=true)(hB:Region.lexB .any l.toArray=true)(k:QW P n (St c h) l.toArray Q l e):CW P n c (.region id l.toArray true) Q e h:=
 fun a w hf hs=>wp_region_quiet hm hB hs.drew (by simpa using k a hf)
theorem QW.nil (k:NW n c .normal Q e h):QW P n (St c h) ops Q [] e:=fun a hf=>wpQuiet_nil fun w' hw'=>k a w' hf hw'
theorem QW.step {C:World->Prop}{rest:List Oper}{d:Nat}{op:Op}{ty:Nat}{pos:String}{af:Array Edge}{v:Value}(hy:Yl P n C e ⟨some d,op,ty,pos,af,none⟩ v)(hd:Nat.blt d n=true)(k:QW P n C ops Q rest ((d,v)::e)) :
  QW P n C ops Q (⟨some d,op,ty,pos,af,none⟩::rest) e:=fun a hf=>by
 unfold wpQuiet
 rw [if_pos (show Region.wanted (⟨some d,op,ty,pos,af,none⟩:Oper) (yielded ops a.tmps)=true from rfl)]
 refine⟨v,fun w hw=>?_,k _ (hf.put d v hd)⟩
 unfold Oper.quietAt
 rw [hy a w hf hw]
 exact⟨rfl,rfl⟩
theorem QW.call {rest:List Oper}{d ty:Nat}{pos:String}{af:Array Edge}{f:Nat}{fn:Func}{code:Code}{xs:List Operand}{ats:Array TypeId}{args:List Value}{pre:List Row}{R:Value->List Row->Prop}{h':Heap}(v:Value)(spec:Spec P c.W c.B f args pre R)
  (hfn:P.funcs[f]?=some fn) (hbody:fn.body=some code) (hname:(fn.name == "runtime.NumGoroutine")=false) (hargs:e.Evs xs args) (tk:Take pre h h') (hR:∀ u post,R u post->u=v/\Sub pre post) (hd:Nat.blt d n=true) (k:QW P n (St c h) ops Q rest ((d,v)::e)) :
  QW P n (St c h) ops Q (⟨some d,.call { callee:=.value (.func f),args:=xs.toArray,argTypes:=ats },ty,pos,af,none⟩::rest) e:=fun a hf=>by
 unfold wpQuiet
 rw [if_pos (show Region.wanted (⟨some d,.call { callee:=.value (.func f),args:=xs.toArray,argTypes:=ats },ty,pos,af,none⟩:Oper) (yielded ops a.tmps)=true from rfl)]
 refine⟨v,fun w s=>?_,k _ (hf.put d v hd)⟩
 have hmap:xs.toArray.map a.eval=args.toArray:=by
  apply Array.ext'
  simpa using hargs.map hf
 have hrun:(execOp a.eval ⟨some d,.call { callee:=.value (.func f),args:=xs.toArray,argTypes:=ats },ty,pos,af,none⟩).run P w=.ok (.enter f args.toArray) w:=by
  have he:a.eval (.func f)=.func (.func f) #[] #[]:=rfl
  have hn:¬ fn.name = "runtime.NumGoroutine" := by simpa using hname
  simp only [execOp,resolve,he,Deferred.ofValue,hmap]
  simp [invoke,callFunc,hfn,hbody,hn]
 unfold Oper.quietAt
 rw [hrun]
 refine⟨rfl,(spec w s.old (s.ext.rows.sub ⟨h'.flatten,tk⟩)).mono ?_⟩
 rintro _ w' ⟨u,post,rfl,hr,hx⟩
 obtain⟨rfl,hp⟩:=hR u post hr
 refine⟨rfl,(s.called tk hx).sub ?_⟩
 obtain⟨q,hq⟩:=hp
 have tk':(pre++h'.flatten).Perm h.flatten:=tk
 refine⟨q,?_⟩
 rw [List.flatten_cons]
 refine (tk'.symm.append_right q).trans ?_
 rw [List.append_assoc]
 refine List.Perm.trans ?_ (hq.append_right _)
 rw [List.append_assoc]
 exact (List.perm_append_comm).append_left pre
theorem yielded_of {j s:Nat}{q:Bool}{a:Act}(hf:Fr n e a)(hs:(ops[j]?).bind (·.dst)=some s)(hv:e.get s=some (.bool q)):yielded ops a.tmps j=some q:=by
 have hlt:s<a.tmps.size:=by
  rcases Nat.lt_or_ge s a.tmps.size with h' | h'
  . exact h'
  . have:=hf.get s _ hv
    simp [Array.getElem?_eq_none h'] at this
    cases this
 have hget:a.tmps[s]?=some (.bool q):=by
  have:=hf.get s _ hv
  simp only [Array.getD_eq_getD_getElem?,Array.getElem?_eq_getElem hlt,Option.getD_some] at this
  rw [Array.getElem?_eq_getElem hlt,this]
 simp [yielded,hs,hget]
theorem QW.on {C:World->Prop}{rest:List Oper}{op:Op}{d:Option Nat}{ty:Nat}{pos:String}{af:Array Edge}{j:Nat}{want:Bool}(s:Nat)(hs:(ops[j]?).bind (·.dst)=some s)(hv:e.get s=some (.bool want))
  (k:QW P n C ops Q (⟨d,op,ty,pos,af,none⟩::rest) e):QW P n C ops Q (⟨d,op,ty,pos,af,some (j,want)⟩::rest) e:=fun a hf=>by
 have hk:=k a hf
 have hy:=yielded_of hf hs hv
 have hw:Region.wanted (⟨d,op,ty,pos,af,some (j,want)⟩:Oper) (yielded ops a.tmps)=true:=by simp [Region.wanted,hy]
 unfold wpQuiet at hk |-
 rw [if_pos (show Region.wanted (⟨d,op,ty,pos,af,none⟩:Oper) (yielded ops a.tmps)=true from rfl)] at hk
 rw [if_pos hw]
 exact hk
theorem QW.off {C:World->Prop}{rest:List Oper}{op:Op}{d ty:Nat}{pos:String}{af:Array Edge}{j:Nat}{want q:Bool}(s:Nat)(hs:(ops[j]?).bind (·.dst)=some s)(hv:e.get s=some (.bool q))(hq:(q==want)=false)(hd:Nat.blt d n=true)
  (k:QW P n C ops Q rest ((d,undef)::e)):QW P n C ops Q (⟨some d,op,ty,pos,af,some (j,want)⟩::rest) e:=fun a hf=>by
 have hk:=k _ (hf.put d undef hd)
 have hy:=yielded_of hf hs hv
 have hw:Region.wanted (⟨some d,op,ty,pos,af,some (j,want)⟩:Oper) (yielded ops a.tmps)=false:=by
  simp only [Region.wanted,hy]
  cases q<;>cases want<;>first | rfl | (simp at hq)
 unfold wpQuiet
 rw [if_neg (by rw [hw];simp)]
 exact hk
section y2
variable {d ty:Nat}{pos:String}{af:Array Edge}
theorem Yl.pickT {x y z:Operand}{v:Value}(hx:e.ev x=some (.bool true))(hy:e.ev y=some v):Yl P n S e ⟨some d,.pick x y z,ty,pos,af,none⟩ v:=fun a w hf _=>by simp [execOp,hf.eval hx,hf.eval hy,asBool]
theorem Yl.pickF {x y z:Operand}{v:Value}(hx:e.ev x=some (.bool false))(hy:e.ev z=some v):Yl P n S e ⟨some d,.pick x y z,ty,pos,af,none⟩ v:=fun a w hf _=>by simp [execOp,hf.eval hx,hf.eval hy,asBool]
theorem Yl.not {x:Operand}{b:Bool}{t:Nat}(q:Bool)(hx:e.ev x=some (.bool b))(hq:(!b)=q):Yl P n S e ⟨some d,.unOp .not t x,ty,pos,af,none⟩ (.bool q):=fun a w hf _=>by subst hq;simp [execOp,hf.eval hx,Op.unary]
theorem Yl.loadSt {t:Nat}{x:Operand}{b o:Nat}{u:TypeId}{l:List Value}{v:Value}{h':Heap}(hx:e.ev x=some (.pointer (some ⟨b,o,none⟩)))(tk:Take [cr b u l] h h')(hv:l[o]?=some v)(ht:oneB P t=true) :
 Yl P n (St c h) e ⟨some d,.load t x,ty,pos,af,none⟩ v:=fun a w hf s=>by simp [execOp,hf.eval hx,run_loadAt_one ht (s.cell tk hv)]
end y2
end
section
variable {P:Program}{n:Nat}{C:World->Prop}{ops:Array Oper}{Q:Exit->Act->World->Prop}{rest:List Oper}{e:Env}{d ty j s:Nat}{pos:String}{af:Array Edge}{v:Value}{x:Operand}{op:Op}{want q:Bool}
theorem QW.mv (k:QW P n C ops Q rest ((d,v)::e))(hx:e.ev x=some v:=by rfl)(hd:Nat.blt d n=true:=by rfl):QW P n C ops Q (⟨some d,.move x,ty,pos,af,none⟩::rest) e:=QW.step (Yl.move hx) hd k
theorem QW.of (s:Nat)(k:QW P n C ops Q rest ((d,undef)::e))(hs:(ops[j]?).bind (·.dst)=some s:=by rfl)(hv:e.get s=some (.bool q):=by rfl)(hq:(q==want)=false:=by rfl)(hd:Nat.blt d n=true:=by rfl):QW P n C ops Q (⟨some d,op,ty,pos,af,some (j,want)⟩::rest) e:=QW.off s hs hv hq hd k
end
end Go.Proofs.YtnlpccoigflheaaGreatDoor
