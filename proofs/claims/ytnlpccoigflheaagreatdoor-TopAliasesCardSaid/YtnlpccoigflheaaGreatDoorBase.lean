/- Base -/
import Derived.WalkKit
import Derived.OrdersHeld
import Derived.Deep.LoopGhost
namespace Go.Proofs.YtnlpccoigflheaaGreatDoor
open Go.RowKit
abbrev Env:=List (Nat×Value)
def Env.get:Env->Nat->Option Value
 | [],_=>none
 | (s,v)::r,t=>bif Nat.beq s t then some v else Env.get r t
def Env.ofArgs:List Value->Nat->Env
 | [],_=>[]
 | v::r,i=>(i,v)::Env.ofArgs r (i+1)
def Env.ev (e:Env):Operand->Option Value
 | .tmp t=>e.get t
 | .const v=>some v
 | .global g=>some (.pointer (some ⟨g,0,none⟩))
 | .func f=>some (.func (.func f) #[] #[])
theorem Env.get_cons (s:Nat)(v:Value)(r:Env)(t:Nat):Env.get ((s,v)::r) t=if s=t then some v else Env.get r t:=by
 simp only [Env.get]
 by_cases h:s=t
 . subst h;simp
 . have:Nat.beq s t=false:=by
    cases hb:Nat.beq s t
    . rfl
    . exact absurd (Nat.eq_of_beq_eq_true hb) h
   simp [this,h]
structure Fr (n:Nat)(e:Env)(a:Act):Prop where
 size:a.tmps.size=n
 defers:a.defers=[]
 get:∀ t v,e.get t=some v->a.tmps.getD t undef=v
def Env.Le (e' e:Env):Prop:=∀ t v,e'.get t=some v->e.get t=some v
theorem Env.Le.nil (e:Env):Env.Le [] e:=fun _ _ h=>by simp [Env.get] at h
theorem Env.Le.cons {s:Nat}{v:Value}{r e:Env}(h:e.get s=some v)(k:Env.Le r e):Env.Le ((s,v)::r) e:=fun t u hu=>by
 rw [Env.get_cons] at hu
 by_cases hst:s=t
 . subst hst;simp at hu;subst hu;exact h
 . simp [hst] at hu;exact k t u hu
theorem Fr.mono {n:Nat}{e e':Env}{a:Act}(h:Fr n e a)(k:Env.Le e' e):Fr n e' a:=⟨h.size,h.defers,fun t v ht=>h.get t v (k t v ht)⟩
theorem Fr.put {n:Nat}{e:Env}{a:Act}(h:Fr n e a)(d:Nat)(v:Value)(hd:Nat.blt d n=true):Fr n ((d,v)::e) (a.put (some d) v):=by
 have hd':d<n:=by simpa [Nat.blt,Nat.succ_le_iff] using hd
 refine⟨by simp [Act.put,h.size],by simp [Act.put,h.defers],fun t u hu=>?_⟩
 rw [Env.get_cons] at hu
 by_cases hst:d=t
 . subst hst
   simp at hu
   subst hu
   simp [Act.put,h.size,hd']
 . simp [hst] at hu
   have:=h.get t u hu
   simpa [Act.put,Array.getElem?_setIfInBounds_ne hst] using this
theorem Fr.eval {n:Nat}{e:Env}{a:Act}(h:Fr n e a){x:Operand}{v:Value}(hx:e.ev x=some v):a.eval x=v:=by
 cases x with
 | tmp t=>exact h.get t v hx
 | const u=>exact Option.some.inj hx
 | global g=>exact Option.some.inj hx
 | func f=>exact Option.some.inj hx
theorem Env.ofArgs_get (l:List Value):∀ (i t:Nat) (v:Value),(Env.ofArgs l i).get t=some v->i<=t/\l[t-i]?=some v:=by
 induction l with
 | nil=>intro i t v h;simp [Env.ofArgs,Env.get] at h
 | cons x r ih=>
  intro i t v h
  simp only [Env.ofArgs] at h
  rw [Env.get_cons] at h
  by_cases hit:i=t
  . subst hit;simp at h;subst h;simp
  . simp [hit] at h
    obtain⟨h1,h2⟩:=ih _ _ _ h
    refine⟨by omega,?_⟩
    rw [show t-i=(t-(i+1))+1 by omega]
    simpa using h2
theorem Fr.enter (args:List Value)(n:Nat)(hn:args.length<=n) :
  Fr n (Env.ofArgs args 0) { tmps:=args.toArray++Array.replicate (n-args.toArray.size) undef,defers:=[] }:=by
 refine⟨by simp;omega,rfl,fun t v h=>?_⟩
 obtain⟨_,h2⟩:=Env.ofArgs_get args 0 t v h
 simp only [Nat.sub_zero] at h2
 have ht:t<args.length:=by
  rcases Nat.lt_or_ge t args.length with h' | h'
  . exact h'
  . rw [List.getElem?_eq_none h'] at h2;cases h2
 have:(args.toArray++Array.replicate (n-args.toArray.size) undef)[t]?=some v:=by
  rw [Array.getElem?_append_left (by simpa using ht)]
  simpa using h2
 simp only [Array.getD_eq_getD_getElem?,this,Option.getD_some]
structure Row where
 b:Nat
 o:Obj
abbrev cr (b:Nat)(t:TypeId)(l:List Value):Row:=⟨b,.cells l.toArray t (0,0)⟩
abbrev Heap:=List (List Row)
structure Old (W:World)(B:Nat)(w:World):Prop where
 os:w.os=W.os
 tape:w.tape=W.tape
 output:w.output=W.output
 le:B<=w.heap.size
 block:∀ b,b<B->w.heap[b]?=W.heap[b]?
def RowsOk (B:Nat)(h:List Row)(w:World):Prop:=(h.map (·.b)).Nodup/\∀ r∈h,B<=r.b/\w.heap[r.b]?=some r.o
structure Ext (B:Nat)(w0:World)(pre:List Nat)(h:List Row)(w:World):Prop where
 os:w.os=w0.os
 tape:w.tape=w0.tape
 output:w.output=w0.output
 size:w0.heap.size<=w.heap.size
 rows:RowsOk B h w
 frame:∀ b,b<w0.heap.size->b∉pre->w.heap[b]?=w0.heap[b]?
 blocks:∀ r∈h,r.b∈pre\/w0.heap.size<=r.b
structure Ctx where
 W:World
 B:Nat
 w0:World
 pre:List Nat
structure St (c:Ctx)(h:Heap)(w:World):Prop where
 old:Old c.W c.B w
 ext:Ext c.B c.w0 c.pre h.flatten w
theorem row_lt {w:World}{b:Nat}{o:Obj}(h:w.heap[b]?=some o):b<w.heap.size:=by
 rcases Nat.lt_or_ge b w.heap.size with h' | h'
 . exact h'
 . simp [Array.getElem?_eq_none h'] at h
def Sub (h' h:List Row):Prop:=∃ r,(h'++r).Perm h
theorem Sub.refl (h:List Row):Sub h h:=⟨[],by simp⟩
theorem Sub.nil (h:List Row):Sub [] h:=⟨h,by simp⟩
theorem Sub.mem {h' h:List Row}(s:Sub h' h){r:Row}(hr:r∈h'):r∈h:=by
 obtain⟨q,hp⟩:=s
 exact hp.mem_iff.1 (List.mem_append_left _ hr)
theorem Sub.trans {a b d:List Row}(h:Sub a b)(k:Sub b d):Sub a d:=by
 obtain⟨r,hr⟩:=h
 obtain⟨q,hq⟩:=k
 exact⟨r++q,by rw [<- List.append_assoc];exact (hr.append_right q).trans hq⟩
theorem Sub.of_perm {a b:List Row}(h:a.Perm b):Sub a b:=⟨[],by simpa using h⟩
def Take (p:List Row)(h h':Heap):Prop:=(p++h'.flatten).Perm h.flatten
theorem Take.head (p:List Row)(h:Heap):Take p (p::h) h:=by unfold Take;simp
theorem Take.tail {p:List Row}{h h':Heap}(x:List Row)(k:Take p h h'):Take p (x::h) (x::h'):=by
 unfold Take at *
 simp only [List.flatten_cons]
 rw [<- List.append_assoc]
 refine (List.perm_append_comm.append_right _).trans ?_
 rw [List.append_assoc]
 exact k.append_left x
theorem Take.none (h:Heap):Take [] h h:=by unfold Take;simp
theorem Take.both {p q:List Row}{h h1 h2:Heap}(k1:Take p h h1)(k2:Take q h1 h2):Take (p++q) h h2:=by
 unfold Take at *
 rw [List.append_assoc]
 exact (k2.append_left p).trans k1
theorem Sub.one {p:List Row}{h h':Heap}(k:Take p h h'):Sub p h.flatten:=⟨h'.flatten,k⟩
theorem Sub.take {p q:List Row}{h h':Heap}(k:Take p h h')(s:Sub q h'.flatten):Sub (p++q) h.flatten:=by
 obtain⟨r,hr⟩:=s
 refine⟨r,?_⟩
 rw [List.append_assoc]
 exact (hr.append_left p).trans k
theorem Sub.heap_nil (h:Heap):Sub (List.flatten ([]:Heap)) h.flatten:=Sub.nil _
theorem Sub.heap_cons {p:List Row}{k h h':Heap}(t:Take p h h')(s:Sub k.flatten h'.flatten):Sub (List.flatten (p::k)) h.flatten:=by
 rw [List.flatten_cons];exact Sub.take t s
theorem RowsOk.sub {B:Nat}{h h':List Row}{w:World}(k:RowsOk B h w)(hs:Sub h' h):RowsOk B h' w:=by
 refine⟨?_,fun r hr=>k.2 r (hs.mem hr)⟩
 obtain⟨q,hp⟩:=hs
 have h1:((h'++q).map (·.b)).Nodup:=(hp.map _).nodup_iff.2 k.1
 rw [List.map_append,List.nodup_append] at h1
 exact h1.1
theorem Ext.sub {B:Nat}{w0 w:World}{pre:List Nat}{h h':List Row}(k:Ext B w0 pre h w)(hs:Sub h' h):Ext B w0 pre h' w:=
 ⟨k.os,k.tape,k.output,k.size,k.rows.sub hs,k.frame,fun r hr=>k.blocks r (hs.mem hr)⟩
theorem St.sub {c:Ctx}{h h':Heap}{w:World}(k:St c h w)(hs:Sub h'.flatten h.flatten):St c h' w:=⟨k.old,k.ext.sub hs⟩
theorem Old.refl (w:World)(B:Nat)(h:B<=w.heap.size):Old w B w:=⟨rfl,rfl,rfl,h,fun _ _=>rfl⟩
theorem Ext.refl {B:Nat}{pre:List Row}{w:World}(h:RowsOk B pre w):Ext B w (pre.map (·.b)) pre w:=
 ⟨rfl,rfl,rfl,Nat.le_refl _,h,fun _ _ _=>rfl,fun _ hr=>.inl (List.mem_map_of_mem hr)⟩
theorem Old.trans {W w w':World}{B:Nat}{pre:List Row}{h:List Row}(k:Old W B w)(hp:RowsOk B pre w)(x:Ext B w (pre.map (·.b)) h w'):Old W B w':=
 ⟨x.os.trans k.os,x.tape.trans k.tape,x.output.trans k.output,Nat.le_trans k.le x.size,fun b hb=>by
  have hn:b∉pre.map (·.b):=fun hm=>by
   obtain⟨r,hr,rfl⟩:=List.mem_map.1 hm
   have:=(hp.2 r hr).1
   omega
  exact (x.frame b (by have:=k.le;omega) hn).trans (k.block b hb)⟩
def Spec (P:Program)(W:World)(B:Nat)(f:FuncId)(args:List Value)(pre:List Row)(R:Value->List Row->Prop):Prop:=
 ∀ w,Old W B w->RowsOk B pre w->Calls P f args.toArray w fun e w'=>∃ v post,e=.returned v/\R v post/\Ext B w (pre.map (·.b)) post w'
theorem Spec.mono {P:Program}{W:World}{B:Nat}{f:FuncId}{args:List Value}{pre:List Row}{R R':Value->List Row->Prop}(h:Spec P W B f args pre R)
 (hr:∀ v post,R v post->R' v post):Spec P W B f args pre R':=fun w ho hp=>(h w ho hp).mono fun _ _ ⟨v,post,he,hR,hx⟩=>⟨v,post,he,hr _ _ hR,hx⟩
def Ret (c:Ctx)(R:Value->List Row->Prop):Ending->World->Prop:=fun e w'=>∃ v post,e=.returned v/\R v post/\Ext c.B c.w0 c.pre post w'
section
variable (P:Program)(n:Nat)(c:Ctx)
def CW (x:Code)(Q:Exit->Act->World->Prop)(e:Env)(h:Heap):Prop:=∀ a w,Fr n e a->St c h w->x.wp P Q a w
def LW (ops:Array Oper)(Q:Exit->Act->World->Prop)(l:List Oper)(e:Env)(h:Heap):Prop:=∀ a w,Fr n e a->St c h w->wpList P ops Q l a w
def NW (x:Exit)(Q:Exit->Act->World->Prop)(e:Env)(h:Heap):Prop:=∀ a w,Fr n e a->St c h w->Q x a w
end
theorem Spec.enter {P:Program}{W:World}{B:Nat}{f:FuncId}{fn:Func}{code:Code}{args:List Value}{pre:List Row}{R:Value->List Row->Prop}{n:Nat}(h:Heap)
  (hf:P.funcs[f]?=some fn) (hb:fn.body=some code) (hn:fn.ntmps=n) (hargs:Nat.ble args.length n=true) (hh:h.flatten=pre)
  (H:∀ w0:World,CW P n ⟨W,B,w0,pre.map (·.b)⟩ code (bodyPost P fn (Ret ⟨W,B,w0,pre.map (·.b)⟩ R)) (Env.ofArgs args 0) h):Spec P W B f args pre R:=by
 intro w ho hp
 subst hn hh
 exact calls_of_wp hf hb (H w _ w (Fr.enter args _ (Nat.le_of_ble_eq_true hargs)) ⟨ho,Ext.refl hp⟩)
section
variable {P:Program}{n:Nat}{c:Ctx}{Q:Exit->Act->World->Prop}{e:Env}{h:Heap}
theorem CW.seq {x y:Code}(k:CW P n c x (Exit.then (fun a w=>y.wp P Q a w) Q) e h):CW P n c (.seq x y) Q e h:=fun a w hf hs=>wp_seq (k a w hf hs)
theorem CW.block {id:Nat}{x:Code}(k:CW P n c x (Exit.inBlock id Q) e h):CW P n c (.block id x) Q e h:=fun a w hf hs=>wp_block (k a w hf hs)
theorem CW.skip (k:NW n c .normal Q e h):CW P n c .skip Q e h:=fun a w hf hs=>wp_skip (k a w hf hs)
theorem CW.label {l:Nat}(k:NW n c .normal Q e h):CW P n c (.label l) Q e h:=fun a w hf hs=>wp_label (k a w hf hs)
theorem CW.exit {id:Nat}(k:NW n c (.exit id) Q e h):CW P n c (.exit id) Q e h:=fun a w hf hs=>wp_exit (k a w hf hs)
theorem CW.ret (k:NW n c .ret Q e h):CW P n c .ret Q e h:=fun a w hf hs=>wp_ret (k a w hf hs)
theorem CW.cond_true {x:Operand}{s t:Code}(hx:e.ev x=some (.bool true))(k:CW P n c s Q e h):CW P n c (.cond x s t) Q e h:=
 fun a w hf hs=>wp_cond_true (hf.eval hx) (k a w hf hs)
theorem CW.cond_false {x:Operand}{s t:Code}(hx:e.ev x=some (.bool false))(k:CW P n c t Q e h):CW P n c (.cond x s t) Q e h:=
 fun a w hf hs=>wp_cond_false (hf.eval hx) (k a w hf hs)
theorem CW.cond {x:Operand}{s t:Code}{b:Bool}(hx:e.ev x=some (.bool b))(k1:b=true->CW P n c s Q e h)(k2:b=false->CW P n c t Q e h):CW P n c (.cond x s t) Q e h:=
 fun a w hf hs=>wp_cond_split (hf.eval hx) (fun hb=>k1 hb a w hf hs) (fun hb=>k2 hb a w hf hs)
theorem CW.region {id:Nat}{l:List Oper}(k:LW P n c l.toArray Q l e h):CW P n c (.region id l.toArray false) Q e h:=fun a w hf hs=>wp_region_lit (k a w hf hs)
theorem CW.scope {x:Code}(k:CW P n c x (Exit.noGoto Q) e h):CW P n c (.scope x) Q e h:=fun a w hf hs=>wp_scope_straight (k a w hf hs)
theorem LW.nil {ops:Array Oper}(k:NW n c .normal Q e h):LW P n c ops Q [] e h:=fun a w hf hs=>wpList_nil (k a w hf hs)
theorem NW.then_ {y:Code}(k:CW P n c y Q e h):NW n c .normal (Exit.then (fun a w=>y.wp P Q a w) Q) e h:=k
theorem NW.then_ret {K:Act->World->Prop}(k:NW n c .ret Q e h):NW n c .ret (Exit.then K Q) e h:=k
theorem NW.then_exit {K:Act->World->Prop}{id:Nat}(k:NW n c (.exit id) Q e h):NW n c (.exit id) (Exit.then K Q) e h:=k
theorem NW.block {id:Nat}(k:NW n c .normal Q e h):NW n c .normal (Exit.inBlock id Q) e h:=k
theorem NW.block_ret {id:Nat}(k:NW n c .ret Q e h):NW n c .ret (Exit.inBlock id Q) e h:=k
theorem NW.block_exit {id:Nat}(k:NW n c .normal Q e h):NW n c (.exit id) (Exit.inBlock id Q) e h:=fun a w hf hs=>by
 simp only [Exit.inBlock,if_true];exact k a w hf hs
theorem NW.block_other {id j:Nat}(hj:Nat.beq j id=false)(k:NW n c (.exit j) Q e h):NW n c (.exit j) (Exit.inBlock id Q) e h:=fun a w hf hs=>by
 have:j≠id:=by rintro rfl;simp at hj
 simp only [Exit.inBlock,this,if_false];exact k a w hf hs
theorem NW.noGoto (k:NW n c .normal Q e h):NW n c .normal (Exit.noGoto Q) e h:=k
theorem NW.noGoto_ret (k:NW n c .ret Q e h):NW n c .ret (Exit.noGoto Q) e h:=k
theorem NW.noGoto_exit {id:Nat}(k:NW n c (.exit id) Q e h):NW n c (.exit id) (Exit.noGoto Q) e h:=k
theorem LW.heap {ops:Array Oper}{l:List Oper}{h':Heap}(k:LW P n c ops Q l e h')(hh:Sub h'.flatten h.flatten):LW P n c ops Q l e h:=
 fun a w hf hs=>k a w hf (hs.sub hh)
theorem CW.heap {x:Code}{h':Heap}(k:CW P n c x Q e h')(hh:Sub h'.flatten h.flatten):CW P n c x Q e h:=
 fun a w hf hs=>k a w hf (hs.sub hh)
def Meet {σ:Type}(n:Nat)(c:Ctx)(E:σ->Env)(H:σ->Heap)(J:σ->Prop):Act->World->Prop:=fun a w=>∃ s,J s/\Fr n (E s) a/\St c (H s) w
theorem CW.cut {σ:Type}(E:σ->Env)(H:σ->Heap)(J:σ->Prop){x y:Code}(k1:CW P n c x (Exit.then (Meet n c E H J) Q) e h)(k2:∀ s,J s->CW P n c y Q (E s) (H s)) :
  CW P n c (.seq x y) Q e h:=fun a w hf hs=>wp_seq (wp_mono (k1 a w hf hs) fun ex a' w' hq=>by
 cases ex with
 | normal=>obtain⟨s,hj,hf',hs'⟩:=hq;exact k2 s hj a' w' hf' hs'
 | _=>exact hq)
theorem NW.meet {σ:Type}{E:σ->Env}{H:σ->Heap}{J:σ->Prop}(s:σ)(hj:J s)(he:Env.Le (E s) e)(hh:Sub (H s).flatten h.flatten) :
 NW n c .normal (Exit.then (Meet n c E H J) Q) e h:=fun _ _ hf hs=>⟨s,hj,hf.mono he,hs.sub hh⟩
theorem CW.loop {σ:Type}(E:σ->Env)(H:σ->Heap)(J:σ->Prop)(μ:σ->Nat)(s0:σ){x:Code}(hj:J s0)(he:Env.Le (E s0) e)(hh:Sub (H s0).flatten h.flatten)
  (round:∀ s,J s->CW P n c x (Exit.then (Meet n c E H fun s'=>J s'/\μ s' < μ s) Q) (E s) (H s)):CW P n c (.loop x) Q e h:=fun a w hf hs=>by
 refine wp_loop_ghost (fun m a w=>∃ s,m=μ s/\J s/\Fr n (E s) a/\St c (H s) w) (μ s0) ⟨s0,rfl,hj,hf.mono he,hs.sub hh⟩ ?_
 rintro m a' w' ⟨s,rfl,hj',hf',hs'⟩
 refine wp_mono (round s hj' a' w' hf' hs') fun ex a2 w2 hq=>?_
 cases ex with
 | normal=>obtain⟨s2,⟨hj2,hlt⟩,hf2,hs2⟩:=hq;exact⟨μ s2,hlt,s2,rfl,hj2,hf2,hs2⟩
 | _=>exact hq
theorem ret_of {fn:Func}{R:Value->List Row->Prop}{x:Exit}(hx:x=.ret\/x=.normal){v:Value}(hr:∀ a w,Fr n e a->(results fn a.tmps).run P w=.ok v w)
  (hR:∃ post,R v post/\Sub post h.flatten):NW n c x (bodyPost P fn (Ret c R)) e h:=fun a w hf hst=>by
 obtain⟨post,hR,hs⟩:=hR
 rcases hx with rfl | rfl<;>exact⟨hf.defers,v,hr a w hf,v,post,rfl,hR,hst.ext.sub hs⟩
theorem NW.ret0 {fn:Func}{R:Value->List Row->Prop}(hr:fn.results=#[])(hR:∃ post,R (.tuple #[]) post/\Sub post h.flatten) :
 NW n c .ret (bodyPost P fn (Ret c R)) e h:=ret_of (.inl rfl) (fun a w _=>by simp [results,hr]) hR
theorem NW.end0 {fn:Func}{R:Value->List Row->Prop}(hr:fn.results=#[])(hR:∃ post,R (.tuple #[]) post/\Sub post h.flatten) :
 NW n c .normal (bodyPost P fn (Ret c R)) e h:=ret_of (.inr rfl) (fun a w _=>by simp [results,hr]) hR
theorem NW.ret1 {fn:Func}{R:Value->List Row->Prop}{t:Nat}{v:Value}(hr:fn.results=#[.tmp t])(hv:e.get t=some v)(hR:∃ post,R v post/\Sub post h.flatten) :
 NW n c .ret (bodyPost P fn (Ret c R)) e h:=ret_of (.inl rfl) (fun a w hf=>by have:=hf.get t v hv;rw [<- this];simp [results,hr]) hR
theorem NW.ret2 {fn:Func}{R:Value->List Row->Prop}{t u:Nat}{v1 v2:Value}(hr:fn.results=#[.tmp t,.tmp u])(hv1:e.get t=some v1)(hv2:e.get u=some v2)
  (hR:∃ post,R (.tuple #[v1,v2]) post/\Sub post h.flatten):NW n c .ret (bodyPost P fn (Ret c R)) e h:=
 ret_of (.inl rfl) (fun a w hf=>by have h1:=hf.get t v1 hv1;have h2:=hf.get u v2 hv2;rw [<- h1,<- h2];simp [results,hr]) hR
theorem NW.ret3 {fn:Func}{R:Value->List Row->Prop}{t u s:Nat}{v1 v2 v3:Value}(hr:fn.results=#[.tmp t,.tmp u,.tmp s])(hv1:e.get t=some v1)(hv2:e.get u=some v2)(hv3:e.get s=some v3)
  (hR:∃ post,R (.tuple #[v1,v2,v3]) post/\Sub post h.flatten):NW n c .ret (bodyPost P fn (Ret c R)) e h:=
 ret_of (.inl rfl) (fun a w hf=>by have h1:=hf.get t v1 hv1;have h2:=hf.get u v2 hv2;have h3:=hf.get s v3 hv3;rw [<- h1,<- h2,<- h3];simp [results,hr]) hR
end
abbrev ptr (p:Nat):Value:=.pointer (some ⟨p,0,none⟩)
abbrev sA (b:Nat):Option Addr:=some ⟨b,0,none⟩
abbrev iN (x:Nat):Value:=.int .i64 (x:Int)
end Go.Proofs.YtnlpccoigflheaaGreatDoor
