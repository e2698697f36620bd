/- Run -/
import Derived.Test.YtnlpccoigflheaaGreatDoorUndef
namespace Go.Proofs.YtnlpccoigflheaaGreatDoor
open Go.RowKit
inductive Tk:List Row->Heap->Heap->Prop where
 | head (p:List Row) (h:Heap):Tk p (p::h) h
 | tail (x:List Row) {p:List Row} {h h':Heap}:Tk p h h'->Tk p (x::h) (x::h')
theorem Take.i {p:List Row}{h h':Heap}(k:Tk p h h'):Take p h h':=by
 induction k with
 | head p h=>exact Take.head p h
 | tail x _ ih=>exact Take.tail x ih
inductive SubH:Heap->Heap->Prop where
 | nil (h:Heap):SubH [] h
 | skip {k h:Heap}:SubH k h->SubH ([]::k) h
 | cons {p:List Row} {k h h':Heap}:Tk p h h'->SubH k h'->SubH (p::k) h
theorem SubH.ok {k h:Heap}(s:SubH k h):Sub k.flatten h.flatten:=by
 induction s with
 | nil h=>exact Sub.heap_nil h
 | skip _ ih=>exact Sub.heap_cons (Take.none _) ih
 | cons t _ ih=>exact Sub.heap_cons (.i t) ih
theorem Env.le_of:∀ {e' e:Env},e'.map (fun x=>e.get x.1)=e'.map (fun x=>some x.2)->Env.Le e' e
 | [],_,_=>Env.Le.nil _
 | (s,v)::r,e,h=>by
  simp only [List.map_cons,List.cons.injEq] at h
  exact Env.Le.cons h.1 (Env.le_of h.2)
def Callee (P:Program)(f:FuncId):Prop:=∃ fn code,P.funcs[f]?=some fn/\fn.body=some code/\(fn.name == "runtime.NumGoroutine")=false
theorem LW.callG {P:Program}{n:Nat}{c:Ctx}{Q:Exit->Act->World->Prop}{e:Env}{h:Heap}{ops:Array Oper}{rest:List Oper}{d ty:Nat}{pos:String}{af:Array Edge}{f:Nat}{xs:List Operand}{ats:Array TypeId}{args:List Value}{pre:List Row}{R:Value->List Row->Prop}{h':Heap}(spec:Spec P c.W c.B f args pre R)
  (hc:Callee P f) (hargs:e.Evs xs args) (tk:Take pre h h') (hd:Nat.blt d n=true) (k:∀ v post,R v post->LW P n c ops Q rest ((d,v)::e) (post::h')) :
  LW P n c ops Q (⟨some d,.call { callee:=.value (.func f),args:=xs.toArray,argTypes:=ats },ty,pos,af,none⟩::rest) e h:=by
 obtain⟨fn,code,h1,h2,h3⟩:=hc
 exact LW.call spec h1 h2 h3 hargs tk hd k
theorem NW.meetG {n:Nat}{c:Ctx}{Q:Exit->Act->World->Prop}{e:Env}{h:Heap}{σ:Type}{E:σ->Env}{H:σ->Heap}{J:σ->Prop}(s:σ)(hj:J s)(he:(E s).map (fun x=>e.get x.1)=(E s).map (fun x=>some x.2))(hh:SubH (H s) h) :
 NW n c .normal (Exit.then (Meet n c E H J) Q) e h:=NW.meet s hj (Env.le_of he) hh.ok
inductive Kf where
 | seq (y:Code)
 | block (id:Nat)
 | scope
inductive Md where
 | code (c:Code)
 | exit (x:Exit)
 | ops (arr:Array Oper) (l:List Oper)
structure Tbl where
 fa:List (Nat×Nat×Nat)
 conc:List Nat
 sl:List Nat
def Tbl.FaOk (P:Program):List (Nat×Nat×Nat)->Prop
 | []=>True
 | (t,i,k)::r=>(∀ (b o:Nat) (w:World),(Instr.fieldAt t (.pointer (some ⟨b,o,none⟩)) i).run P w=.ok (.pointer (some ⟨b,o+k,none⟩)) w)/\Tbl.FaOk P r
def Tbl.CoOk (P:Program):List Nat->Prop
 | []=>True
 | t::r=>P.concrete t=true/\Tbl.CoOk P r
def Tbl.SlOk (P:Program):List Nat->Prop
 | []=>True
 | t::r=>(∃ el,P.underlying t=some (.slice el))/\Tbl.SlOk P r
structure Tbl.Ok (P:Program)(T:Tbl):Prop where
 fa:Tbl.FaOk P T.fa
 conc:Tbl.CoOk P T.conc
 sl:Tbl.SlOk P T.sl
def Tbl.getFa:List (Nat×Nat×Nat)->Nat->Nat->Option Nat
 | [],_,_=>none
 | (t,i,k)::r,t',i'=>bif Nat.beq t t' && Nat.beq i i' then some k else Tbl.getFa r t' i'
def Tbl.has:List Nat->Nat->Bool
 | [],_=>false
 | t::r,t'=>bif Nat.beq t t' then true else Tbl.has r t'
def pval (T:Tbl)(e:Env):Op->Option Value
 | .move x=>e.ev x
 | .assign x=>e.ev x
 | .pick x y z=>match e.ev x with
  | some (.bool b)=>bif b then e.ev y else e.ev z
  | _=>none
 | .unOp .not _ x=>match e.ev x with
  | some (.bool b)=>some (.bool (!b))
  | _=>none
 | .nilCheck x=>match e.ev x with
  | some (.pointer (some p))=>some (.pointer (some p))
  | _=>none
 | .extract x i=>match e.ev x with
  | some (.tuple vs)=>vs[i]?
  | _=>none
 | .fieldAddr t x i=>match e.ev x with
  | some (.pointer (some ⟨b,o,none⟩))=>match Tbl.getFa T.fa t i with
   | some k=>some (.pointer (some ⟨b,o+k,none⟩))
   | none=>none
  | _=>none
 | .makeInterface t x=>bif Tbl.has T.conc t then (match e.ev x with | some v=>some (.iface t v) | none=>none) else none
 | .call c=>match c with
  | ⟨.builtin .len,args,ats⟩=>match args.toList,ats.toList with
   | [x],[t]=>match e.ev x with
    | some (.slice _ l _)=>bif Tbl.has T.sl t then some (.int .i64 (l:Int)) else none
    | _=>none
   | _,_=>none
  | _=>none
 | _=>none
def isUndef:Value->Bool
 | .tuple vs=>vs.toList.isEmpty
 | _=>false
def step1 (T:Tbl)(n:Nat):Md->List Kf->Env->Option (Md×List Kf×Env)
 | .code (.seq x y),ks,e=>some (.code x,.seq y::ks,e)
 | .code (.block id x),ks,e=>some (.code x,.block id::ks,e)
 | .code (.scope x),ks,e=>some (.code x,.scope::ks,e)
 | .code .skip,ks,e=>some (.exit .normal,ks,e)
 | .code (.label _),ks,e=>some (.exit .normal,ks,e)
 | .code (.exit id),ks,e=>some (.exit (.exit id),ks,e)
 | .code .ret,ks,e=>some (.exit .ret,ks,e)
 | .code (.region _ arr false),ks,e=>some (.ops arr arr.toList,ks,e)
 | .code (.cond x s t),ks,e=>match e.ev x with
  | some (.bool b)=>some (.code (bif b then s else t),ks,e)
  | _=>none
 | .exit .normal,.seq y::ks,e=>some (.code y,ks,e)
 | .exit .ret,.seq _::ks,e=>some (.exit .ret,ks,e)
 | .exit (.exit j),.seq _::ks,e=>some (.exit (.exit j),ks,e)
 | .exit .normal,.block _::ks,e=>some (.exit .normal,ks,e)
 | .exit .ret,.block _::ks,e=>some (.exit .ret,ks,e)
 | .exit (.exit j),.block id::ks,e=>some (.exit (bif Nat.beq j id then .normal else .exit j),ks,e)
 | .exit .normal,.scope::ks,e=>some (.exit .normal,ks,e)
 | .exit .ret,.scope::ks,e=>some (.exit .ret,ks,e)
 | .exit (.exit j),.scope::ks,e=>some (.exit (.exit j),ks,e)
 | .ops _ [],ks,e=>some (.exit .normal,ks,e)
 | .ops arr (⟨some d,op,_,_,_,none⟩::r),ks,e=>match pval T e op with
  | some v=>bif Nat.blt d n then some (.ops arr r,ks,(d,v)::e) else none
  | none=>none
 | .ops arr (⟨some d,op,ty,pos,af,some (j,want)⟩::r),ks,e=>match (arr[j]?).bind (·.dst) with
  | some s=>match e.get s with
   | some (.bool q)=>bif q==want then some (.ops arr (⟨some d,op,ty,pos,af,none⟩::r),ks,e) else bif Nat.blt d n then some (.ops arr r,ks,(d,undef)::e) else none
   | some v=>bif isUndef v && Nat.blt d n then some (.ops arr r,ks,(d,undef)::e) else none
   | none=>none
  | none=>none
 | .ops arr (⟨none,op,ty,pos,af,some (j,want)⟩::r),ks,e=>match (arr[j]?).bind (·.dst) with
  | some s=>match e.get s with
   | some (.bool q)=>bif q==want then some (.ops arr (⟨none,op,ty,pos,af,none⟩::r),ks,e) else none
   | _=>none
  | none=>none
 | _,_,_=>none
def runN (T:Tbl)(n:Nat):Nat->Md->List Kf->Env->Option (Md×List Kf×Env)
 | 0,m,ks,e=>some (m,ks,e)
 | f+1,m,ks,e=>match step1 T n m ks e with
  | some (m',ks',e')=>runN T n f m' ks' e'
  | none=>none
def Qof (P:Program):List Kf->(Exit->Act->World->Prop)->Exit->Act->World->Prop
 | [],Q=>Q
 | .seq y::ks,Q=>Exit.then (fun a w=>y.wp P (Qof P ks Q) a w) (Qof P ks Q)
 | .block id::ks,Q=>Exit.inBlock id (Qof P ks Q)
 | .scope::ks,Q=>Exit.noGoto (Qof P ks Q)
section
variable (P:Program)(n:Nat)(c:Ctx)
def Md.Holds (Q:Exit->Act->World->Prop)(h:Heap)(ks:List Kf)(e:Env):Md->Prop
 | .code x=>CW P n c x (Qof P ks Q) e h
 | .exit x=>NW n c x (Qof P ks Q) e h
 | .ops arr l=>LW P n c arr (Qof P ks Q) l e h
end
section
variable {P:Program}{n:Nat}{c:Ctx}{Q:Exit->Act->World->Prop}{h:Heap}{T:Tbl}
theorem Tbl.getFa_ok:∀ {l:List (Nat×Nat×Nat)} {t i k:Nat},Tbl.FaOk P l->Tbl.getFa l t i=some k->∀ (b o:Nat) (w:World),(Instr.fieldAt t (.pointer (some ⟨b,o,none⟩)) i).run P w=.ok (.pointer (some ⟨b,o+k,none⟩)) w
 | (t0,i0,k0)::r,t,i,k,h,hg=>by
  simp only [Tbl.getFa] at hg
  cases hb:(Nat.beq t0 t && Nat.beq i0 i)
  . rw [hb] at hg;exact Tbl.getFa_ok h.2 hg
  . rw [hb] at hg
    simp only [Bool.and_eq_true] at hb
    have h1:=Nat.eq_of_beq_eq_true hb.1
    have h2:=Nat.eq_of_beq_eq_true hb.2
    obtain rfl:=Option.some.inj hg
    rw [<- h1,<- h2];exact h.1
theorem Tbl.co_ok:∀ {l:List Nat} {t:Nat},Tbl.CoOk P l->Tbl.has l t=true->P.concrete t=true
 | t0::r,t,h,hg=>by
  simp only [Tbl.has] at hg
  cases hb:Nat.beq t0 t
  . rw [hb] at hg;exact Tbl.co_ok h.2 hg
  . rw [<- Nat.eq_of_beq_eq_true hb];exact h.1
theorem Tbl.sl_ok:∀ {l:List Nat} {t:Nat},Tbl.SlOk P l->Tbl.has l t=true->∃ el,P.underlying t=some (.slice el)
 | t0::r,t,h,hg=>by
  simp only [Tbl.has] at hg
  cases hb:Nat.beq t0 t
  . rw [hb] at hg;exact Tbl.sl_ok h.2 hg
  . rw [<- Nat.eq_of_beq_eq_true hb];exact h.1
theorem isUndef_eq {v:Value}(h:isUndef v=true):v=undef:=by
 cases v<;>simp [isUndef] at h
 rename_i vs
 obtain rfl:vs=#[]:=by simpa using h
 rfl
theorem pval_ok (hT:T.Ok P){e:Env}{op:Op}{v:Value}{d ty:Nat}{pos:String}{af:Array Edge}{ops:Array Oper}{rest:List Oper}{Q:Exit->Act->World->Prop}(hv:pval T e op=some v)(hd:Nat.blt d n=true)
   (k:LW P n c ops Q rest ((d,v)::e) h):LW P n c ops Q (⟨some d,op,ty,pos,af,none⟩::rest) e h:=by
 unfold pval at hv
 split at hv
 . exact LW.move hv hd k
 . exact LW.assign hv hd k
 . split at hv
   . rename_i b hb
     cases b
     . exact LW.pickF hb hv hd k
     . exact LW.pickT hb hv hd k
   . cases hv
 . split at hv
   . rename_i b hb
     obtain rfl:=Option.some.inj hv
     exact LW.not _ hb rfl hd k
   . cases hv
 . split at hv
   . rename_i p hp
     obtain rfl:=Option.some.inj hv
     exact LW.nilPtr hp hd k
   . cases hv
 . split at hv
   . rename_i vs hvs
     exact LW.extract hvs hv hd k
   . cases hv
 . split at hv
   . rename_i b o hp
     split at hv
     . rename_i k0 hk
       obtain rfl:=Option.some.inj hv
       exact LW.fieldAddr _ hp (fun w=>Tbl.getFa_ok hT.fa hk b o w) hd k
     . cases hv
   . cases hv
 . rename_i t x
   cases hh:Tbl.has T.conc t
   . rw [hh] at hv;cases hv
   . rw [hh] at hv
     simp only [cond_true] at hv
     split at hv
     . rename_i u hu
       obtain rfl:=Option.some.inj hv
       exact LW.mkIface hu (Tbl.co_ok hT.conc hh) hd k
     . cases hv
 . split at hv
   . rename_i args ats
     split at hv
     . rename_i x t ha hat
       split at hv
       . rename_i A l cp hx
         cases hh:Tbl.has T.sl t
         . rw [hh] at hv;cases hv
         . rw [hh] at hv
           obtain rfl:=Option.some.inj hv
           obtain⟨el,hel⟩:=Tbl.sl_ok hT.sl hh
           obtain rfl:args=#[x]:=by apply Array.ext';simpa using ha
           obtain rfl:ats=#[t]:=by apply Array.ext';simpa using hat
           exact LW.lenSlice hx hel hd k
       . cases hv
     . cases hv
   . cases hv
 . cases hv
theorem step1_ok (hT:T.Ok P){m m':Md}{ks ks':List Kf}{e e':Env}(hs:step1 T n m ks e=some (m',ks',e'))(k:m'.Holds P n c Q h ks' e'):m.Holds P n c Q h ks e:=by
 unfold step1 at hs
 split at hs
 all_goals first
  | (obtain⟨rfl,rfl,rfl⟩:_/\_/\_:=by simpa using hs
     first
      | exact CW.seq k
      | exact CW.block k
      | exact CW.scope k
      | exact CW.skip k
      | exact CW.label k
      | exact CW.exit k
      | exact CW.ret k
      | exact NW.then_ k
      | exact NW.then_ret k
      | exact NW.then_exit k
      | exact NW.block k
      | exact NW.block_ret k
      | exact NW.noGoto k
      | exact NW.noGoto_ret k
      | exact NW.noGoto_exit k
      | exact LW.nil k
      | done)
  | skip
 case h_8 id arr=>
  obtain⟨rfl,rfl,rfl⟩:Md.ops arr arr.toList=m'/\ks=ks'/\e=e':=by simpa using hs
  have k':LW P n c arr (Qof P ks Q) arr.toList e h:=k
  have ha:arr=arr.toList.toArray:=by simp
  show CW P n c (.region id arr false) (Qof P ks Q) e h
  rw [ha]
  exact CW.region (by rw [<- ha];exact k')
 case h_9 x s t=>
  split at hs
  . rename_i b hb
    obtain⟨rfl,rfl,rfl⟩:_/\_/\_:=by simpa using hs
    cases b
    . exact CW.cond_false hb k
    . exact CW.cond_true hb k
  . cases hs
 case h_15 j id ks=>
  obtain⟨rfl,rfl,rfl⟩:_/\_/\_:=by simpa using hs
  cases hb:Nat.beq j id
  . rw [hb] at k
    exact NW.block_other hb k
  . rw [hb] at k
    have:=Nat.eq_of_beq_eq_true hb
    subst this
    exact NW.block_exit k
 case h_20 arr d op ty pos af r=>
  split at hs
  . rename_i v hv
    cases hd:Nat.blt d n
    . rw [hd] at hs;cases hs
    . rw [hd] at hs
      obtain⟨rfl,rfl,rfl⟩:_/\_/\_:=by simpa using hs
      exact pval_ok hT hv hd k
  . cases hs
 case h_21 arr d op ty pos af j want r=>
  split at hs
  . rename_i s hs1
    split at hs
    . rename_i q hq
      cases hqw:(q==want)
      . rw [hqw] at hs
        cases hd:Nat.blt d n
        . rw [hd] at hs;cases hs
        . rw [hd] at hs
          obtain⟨rfl,rfl,rfl⟩:_/\_/\_:=by simpa using hs
          exact LW.off s hs1 hq hqw hd k
      . rw [hqw] at hs
        obtain⟨rfl,rfl,rfl⟩:_/\_/\_:=by simpa using hs
        obtain rfl:q=want:=by simpa using hqw
        exact LW.on s hs1 hq k
    . rename_i v _ hv
      cases hd:(isUndef v && Nat.blt d n)
      . rw [hd] at hs;cases hs
      . rw [hd] at hs
        obtain⟨rfl,rfl,rfl⟩:_/\_/\_:=by simpa using hs
        simp only [Bool.and_eq_true] at hd
        rw [isUndef_eq hd.1] at hv
        exact LW.offU s hs1 hv hd.2 k
    . cases hs
  . cases hs
 case h_22 arr op ty pos af j want r=>
  split at hs
  . rename_i s hs1
    split at hs
    . rename_i q hq
      cases hqw:(q==want)
      . rw [hqw] at hs;cases hs
      . rw [hqw] at hs
        obtain⟨rfl,rfl,rfl⟩:_/\_/\_:=by simpa using hs
        obtain rfl:q=want:=by simpa using hqw
        exact LW.on s hs1 hq k
    . cases hs
  . cases hs
 all_goals cases hs
theorem runN_ok (hT:T.Ok P):∀ {f:Nat} {m m':Md} {ks ks':List Kf} {e e':Env},runN T n f m ks e=some (m',ks',e')->m'.Holds P n c Q h ks' e'->m.Holds P n c Q h ks e
 | 0,m,m',ks,ks',e,e',hs,k=>by
  simp only [runN,Option.some.injEq,Prod.mk.injEq] at hs
  obtain⟨rfl,rfl,rfl⟩:=hs
  exact k
 | f+1,m,m',ks,ks',e,e',hs,k=>by
  simp only [runN] at hs
  split at hs
  . rename_i m1 ks1 e1 h1
    exact step1_ok hT h1 (runN_ok hT hs k)
  . cases hs
theorem LW.go (hT:T.Ok P)(f:Nat){arr:Array Oper}{l:List Oper}{m':Md}{ks ks':List Kf}{e e':Env}(hs:runN T n f (.ops arr l) ks e=some (m',ks',e'))(k:m'.Holds P n c Q h ks' e'):LW P n c arr (Qof P ks Q) l e h:=runN_ok hT hs k
theorem CW.go (hT:T.Ok P)(f:Nat){x:Code}{m':Md}{ks ks':List Kf}{e e':Env}(hs:runN T n f (.code x) ks e=some (m',ks',e'))(k:m'.Holds P n c Q h ks' e'):CW P n c x (Qof P ks Q) e h:=runN_ok hT hs k
theorem NW.go (hT:T.Ok P)(f:Nat){x:Exit}{m':Md}{ks ks':List Kf}{e e':Env}(hs:runN T n f (.exit x) ks e=some (m',ks',e'))(k:m'.Holds P n c Q h ks' e'):NW n c x (Qof P ks Q) e h:=runN_ok hT hs k
theorem PO.qof:∀ {ks:List Kf} {Q:Exit->Act->World->Prop},PO Q->PO (Qof P ks Q)
 | [],_,h=>h
 | .seq _::_,_,h=>PO.then_ (PO.qof h)
 | .block _::_,_,h=>PO.block (PO.qof h)
 | .scope::_,_,h=>PO.noGoto (PO.qof h)
theorem Spec.enterG {W:World}{B:Nat}{f:FuncId}{fn:Func}{code:Code}{args:List Value}{pre:List Row}{R:Value->List Row->Prop}{n:Nat}(h:Heap)
 (hf:P.funcs[f]?=some fn) (hb:fn.body=some code) (hn:fn.ntmps=n) (hargs:Nat.ble args.length n=true) (hh:h.flatten=pre)
 (H:∀ w0:World,CW P n ⟨W,B,w0,pre.map (·.b)⟩ code (Qof P [] (bodyPost P fn (Ret ⟨W,B,w0,pre.map (·.b)⟩ R))) (Env.ofArgs args 0) h):Spec P W B f args pre R:=Spec.enter h hf hb hn hargs hh H
theorem CW.cutG {e:Env}{σ:Type}(E:σ->Env)(H:σ->Heap)(J:σ->Prop){x y:Code}(k1:CW P n c x (Qof P [] (Exit.then (Meet n c E H J) Q)) e h)(k2:∀ s,J s->CW P n c y Q (E s) (H s)) :
 CW P n c (.seq x y) Q e h:=CW.cut E H J k1 k2
theorem CW.loopG {e:Env}{σ:Type}(E:σ->Env)(H:σ->Heap)(J:σ->Prop)(μ:σ->Nat)(s0:σ){x:Code}(hj:J s0)(he:(E s0).map (fun x=>e.get x.1)=(E s0).map (fun x=>some x.2))(hh:SubH (H s0) h)
 (round:∀ s,J s->CW P n c x (Qof P [] (Exit.then (Meet n c E H fun s'=>J s'/\μ s' < μ s) Q)) (E s) (H s)):CW P n c (.loop x) Q e h:=CW.loop E H J μ s0 hj (Env.le_of he) hh.ok round
end
theorem Take.t {p:List Row}{h h':Heap}(k:Tk p h h':=by repeat constructor):Take p h h':=.i k
theorem Take.n2 {p:List Row}{h h':Heap}(k:Take p h h':=by exact (Take.both .t .t)):Take p h h':=k
theorem Take.n3 {p:List Row}{h h':Heap}(k:Take p h h':=by exact (Take.both .t (Take.both .t .t))):Take p h h':=k
theorem Take.n4 {p:List Row}{h h':Heap}(k:Take p h h':=by exact (Take.both .t (Take.both .t (Take.both .t .t)))):Take p h h':=k
theorem Take.n5 {p:List Row}{h h':Heap}(k:Take p h h':=by exact (Take.both .t (Take.both .t (Take.both .t (Take.both .t .t))))):Take p h h':=k
theorem Take.n6 {p:List Row}{h h':Heap}(k:Take p h h':=by exact (Take.both .t (Take.both .t (Take.both .t (Take.both .t (Take.both .t .t)))))):Take p h h':=k
theorem Take.n7 {p:List Row}{h h':Heap}(k:Take p h h':=by exact (Take.both .t (Take.both .t (Take.both .t (Take.both .t (Take.both .t (Take.both .t .t))))))):Take p h h':=k
theorem Sub.s2 {p q:List Row}(k:Sub p q:=by exact Sub.take .t (Sub.one .t)):Sub p q:=k
theorem Sub.s3 {p q:List Row}(k:Sub p q:=by exact Sub.take .t (Sub.take .t (Sub.one .t))):Sub p q:=k
theorem Sub.s4 {p q:List Row}(k:Sub p q:=by exact Sub.take .t (Sub.take .t (Sub.take .t (Sub.one .t)))):Sub p q:=k
theorem Sub.s5 {p q:List Row}(k:Sub p q:=by exact Sub.take .t (Sub.take .t (Sub.take .t (Sub.take .t (Sub.one .t))))):Sub p q:=k
theorem Sub.s6 {p q:List Row}(k:Sub p q:=by exact Sub.take .t (Sub.take .t (Sub.take .t (Sub.take .t (Sub.take .t (Sub.one .t)))))):Sub p q:=k
theorem Sub.s7 {p q:List Row}(k:Sub p q:=by exact Sub.take .t (Sub.take .t (Sub.take .t (Sub.take .t (Sub.take .t (Sub.take .t (Sub.one .t))))))):Sub p q:=k
theorem Sub.s8 {p q:List Row}(k:Sub p q:=by exact Sub.take .t (Sub.take .t (Sub.take .t (Sub.take .t (Sub.take .t (Sub.take .t (Sub.take .t (Sub.one .t)))))))):Sub p q:=k
theorem Sub.s9 {p q:List Row}(k:Sub p q:=by exact Sub.take .t (Sub.take .t (Sub.take .t (Sub.take .t (Sub.take .t (Sub.take .t (Sub.take .t (Sub.take .t (Sub.one .t))))))))):Sub p q:=k
theorem Sub.s10 {p q:List Row}(k:Sub p q:=by exact Sub.take .t (Sub.take .t (Sub.take .t (Sub.take .t (Sub.take .t (Sub.take .t (Sub.take .t (Sub.take .t (Sub.take .t (Sub.one .t)))))))))):Sub p q:=k
theorem Sub.s11 {p q:List Row}(k:Sub p q:=by exact Sub.take .t (Sub.take .t (Sub.take .t (Sub.take .t (Sub.take .t (Sub.take .t (Sub.take .t (Sub.take .t (Sub.take .t (Sub.take .t (Sub.one .t))))))))))):Sub p q:=k
theorem Sub.s12 {p q:List Row}(k:Sub p q:=by exact Sub.take .t (Sub.take .t (Sub.take .t (Sub.take .t (Sub.take .t (Sub.take .t (Sub.take .t (Sub.take .t (Sub.take .t (Sub.take .t (Sub.take .t (Sub.one .t)))))))))))):Sub p q:=k
theorem Sub.s13 {p q:List Row}(k:Sub p q:=by exact Sub.take .t (Sub.take .t (Sub.take .t (Sub.take .t (Sub.take .t (Sub.take .t (Sub.take .t (Sub.take .t (Sub.take .t (Sub.take .t (Sub.take .t (Sub.take .t (Sub.one .t))))))))))))):Sub p q:=k
theorem Sub.s14 {p q:List Row}(k:Sub p q:=by exact Sub.take .t (Sub.take .t (Sub.take .t (Sub.take .t (Sub.take .t (Sub.take .t (Sub.take .t (Sub.take .t (Sub.take .t (Sub.take .t (Sub.take .t (Sub.take .t (Sub.take .t (Sub.one .t)))))))))))))):Sub p q:=k
theorem Sub.s15 {p q:List Row}(k:Sub p q:=by exact Sub.take .t (Sub.take .t (Sub.take .t (Sub.take .t (Sub.take .t (Sub.take .t (Sub.take .t (Sub.take .t (Sub.take .t (Sub.take .t (Sub.take .t (Sub.take .t (Sub.take .t (Sub.take .t (Sub.one .t))))))))))))))):Sub p q:=k
theorem zd {l:List Value}:∀ (j:Nat) (v:Value),l[j]?=some v->l[0+j]?=some v:=fun j v hj=>by rw [Nat.zero_add];exact hj
theorem sze {a:Option Nat}{n m:Nat}(h:a=some n)(e:m=n:=by rfl):a=some m:=by rw [h,e]
theorem dT {p:Prop}[Decidable p](h:p:=by omega):decide p=true:=decide_eq_true h
theorem dF {p:Prop}[Decidable p](h:¬ p:=by omega):decide p=false:=decide_eq_false h
theorem bT {a b:Int}(h:a=b:=by omega):(a==b)=true:=beq_iff_eq.2 h
theorem bF {a b:Int}(h:a≠b:=by omega):(a==b)=false:=beq_eq_false_iff_ne.2 h
theorem nT {a b:Int}(h:a≠b:=by omega):(a != b)=true:=bne_iff_ne.2 h
theorem nF {a b:Int}(h:a=b:=by omega):(a != b)=false:=bne_eq_false_iff_eq.2 h
theorem oT {p q:Prop}[Decidable p](h:decide p=true)(k:p->q:=by intro h;omega):q:=k (of_decide_eq_true h)
theorem oF {p q:Prop}[Decidable p](h:decide p=false)(k:¬ p->q:=by intro h;omega):q:=k (of_decide_eq_false h)
theorem smA {α:Type}{A:Option α}{n:Nat}(h:A=none->n=0)(k:n≠0:=by omega):∃ x,A=some x:=by cases A with | none=>exact absurd (h rfl) k | some x=>exact⟨x,rfl⟩
theorem w4 {p r:Int}(h:p=r:=by omega)(h0:-9223372036854775808<=r:=by omega)(h1:r<=9223372036854775807:=by omega):IntKind.i64.wrap p=r:=wr64 h h0 h1
theorem w6 {a b:Int}(h:a=b:=by first | rfl | exact wr64 (by omega) (by omega) (by omega)):a=b:=h
theorem Spec.eG {P:Program}{W:World}{B:Nat}{f:FuncId}{fn:Func}{code:Code}{args:List Value}{pre:List Row}{R:Value->List Row->Prop}{n:Nat}(h:Heap)(hf:P.funcs[f]?=some fn)(hn:fn.ntmps=n)
 (H:∀ w0:World,CW P n ⟨W,B,w0,pre.map (·.b)⟩ code (Qof P [] (bodyPost P fn (Ret ⟨W,B,w0,pre.map (·.b)⟩ R))) (Env.ofArgs args 0) h) (hb:fn.body=some code:=by rfl) (hargs:Nat.ble args.length n=true:=by rfl) (hh:h.flatten=pre:=by first | rfl | simp):Spec P W B f args pre R:=Spec.enterG h hf hb hn hargs hh H
theorem NW.mG {n:Nat}{c:Ctx}{Q:Exit->Act->World->Prop}{e:Env}{h:Heap}{σ:Type}{E:σ->Env}{H:σ->Heap}{J:σ->Prop}(s:σ)(hj:J s)(he:(E s).map (fun x=>e.get x.1)=(E s).map (fun x=>some x.2):=by rfl)(hh:SubH (H s) h:=by repeat' constructor):NW n c .normal (Exit.then (Meet n c E H J) Q) e h:=NW.meetG s hj he hh
section
variable {P:Program}{n:Nat}{c:Ctx}{Q:Exit->Act->World->Prop}{e:Env}{h h':Heap}{ops:Array Oper}{rest:List Oper}{d ty t:Nat}{pos:String}{af:Array Edge}{xt yt:Nat}{x y:Operand}{ki:IntKind}{p q:Int}{b o:Nat}{u:TypeId}{l:List Value}{v:Value}
theorem LW.cG {f:Nat}{xs:List Operand}{ats:Array TypeId}{args:List Value}{pre:List Row}{R:Value->List Row->Prop}(spec:Spec P c.W c.B f args pre R)(hc:Callee P f)(k:∀ v post,R v post->LW P n c ops Q rest ((d,v)::e) (post::h'))(hargs:e.Evs xs args:=by repeat (first | exact trivial | refine⟨rfl,?_⟩))(tk:Take pre h h':=by exact .t)(hd:Nat.blt d n=true:=by rfl) :
 LW P n c ops Q (⟨some d,.call { callee:=.value (.func f),args:=xs.toArray,argTypes:=ats },ty,pos,af,none⟩::rest) e h:=LW.callG spec hc hargs tk hd k
theorem LW.cT {f:Nat}{xs:List Operand}{ats:Array TypeId}{args:List Value}{pre:List Row}{R:Value->List Row->Prop}(spec:Spec P c.W c.B f args pre R)(hc:Callee P f)(tk:Take pre h h')(k:∀ v post,R v post->LW P n c ops Q rest ((d,v)::e) (post::h'))(hargs:e.Evs xs args:=by repeat (first | exact trivial | refine⟨rfl,?_⟩))(hd:Nat.blt d n=true:=by rfl) :
 LW P n c ops Q (⟨some d,.call { callee:=.value (.func f),args:=xs.toArray,argTypes:=ats },ty,pos,af,none⟩::rest) e h:=LW.callG spec hc hargs tk hd k
theorem LW.eqlT (k:LW P n c ops Q rest ((d,.bool true)::e) h)(hx:e.ev x=some (.int ki p):=by rfl)(hy:e.ev y=some (.int ki q):=by rfl)(hr:(p==q)=true:=by exact bT)(hd:Nat.blt d n=true:=by rfl):LW P n c ops Q (⟨some d,.binOp .eql xt x y yt,ty,pos,af,none⟩::rest) e h:=LW.eql _ hx hy hr hd k
theorem LW.eqlF (k:LW P n c ops Q rest ((d,.bool false)::e) h)(hx:e.ev x=some (.int ki p):=by rfl)(hy:e.ev y=some (.int ki q):=by rfl)(hr:(p==q)=false:=by exact bF)(hd:Nat.blt d n=true:=by rfl):LW P n c ops Q (⟨some d,.binOp .eql xt x y yt,ty,pos,af,none⟩::rest) e h:=LW.eql _ hx hy hr hd k
theorem LW.neqT (k:LW P n c ops Q rest ((d,.bool true)::e) h)(hx:e.ev x=some (.int ki p):=by rfl)(hy:e.ev y=some (.int ki q):=by rfl)(hr:(p != q)=true:=by exact nT)(hd:Nat.blt d n=true:=by rfl):LW P n c ops Q (⟨some d,.binOp .neq xt x y yt,ty,pos,af,none⟩::rest) e h:=LW.neq _ hx hy hr hd k
theorem LW.neqF (k:LW P n c ops Q rest ((d,.bool false)::e) h)(hx:e.ev x=some (.int ki p):=by rfl)(hy:e.ev y=some (.int ki q):=by rfl)(hr:(p != q)=false:=by exact nF)(hd:Nat.blt d n=true:=by rfl):LW P n c ops Q (⟨some d,.binOp .neq xt x y yt,ty,pos,af,none⟩::rest) e h:=LW.neq _ hx hy hr hd k
theorem LW.lssT (k:LW P n c ops Q rest ((d,.bool true)::e) h)(hx:e.ev x=some (.int ki p):=by rfl)(hy:e.ev y=some (.int ki q):=by rfl)(hr:decide (p<q)=true:=by exact dT)(hd:Nat.blt d n=true:=by rfl):LW P n c ops Q (⟨some d,.binOp .lss xt x y yt,ty,pos,af,none⟩::rest) e h:=LW.lss _ hx hy hr hd k
theorem LW.lssF (k:LW P n c ops Q rest ((d,.bool false)::e) h)(hx:e.ev x=some (.int ki p):=by rfl)(hy:e.ev y=some (.int ki q):=by rfl)(hr:decide (p<q)=false:=by exact dF)(hd:Nat.blt d n=true:=by rfl):LW P n c ops Q (⟨some d,.binOp .lss xt x y yt,ty,pos,af,none⟩::rest) e h:=LW.lss _ hx hy hr hd k
theorem LW.leqT (k:LW P n c ops Q rest ((d,.bool true)::e) h)(hx:e.ev x=some (.int ki p):=by rfl)(hy:e.ev y=some (.int ki q):=by rfl)(hr:decide (p<=q)=true:=by exact dT)(hd:Nat.blt d n=true:=by rfl):LW P n c ops Q (⟨some d,.binOp .leq xt x y yt,ty,pos,af,none⟩::rest) e h:=LW.leq _ hx hy hr hd k
theorem LW.leqF (k:LW P n c ops Q rest ((d,.bool false)::e) h)(hx:e.ev x=some (.int ki p):=by rfl)(hy:e.ev y=some (.int ki q):=by rfl)(hr:decide (p<=q)=false:=by exact dF)(hd:Nat.blt d n=true:=by rfl):LW P n c ops Q (⟨some d,.binOp .leq xt x y yt,ty,pos,af,none⟩::rest) e h:=LW.leq _ hx hy hr hd k
theorem LW.gtrT (k:LW P n c ops Q rest ((d,.bool true)::e) h)(hx:e.ev x=some (.int ki p):=by rfl)(hy:e.ev y=some (.int ki q):=by rfl)(hr:decide (p>q)=true:=by exact dT)(hd:Nat.blt d n=true:=by rfl):LW P n c ops Q (⟨some d,.binOp .gtr xt x y yt,ty,pos,af,none⟩::rest) e h:=LW.gtr _ hx hy hr hd k
theorem LW.gtrF (k:LW P n c ops Q rest ((d,.bool false)::e) h)(hx:e.ev x=some (.int ki p):=by rfl)(hy:e.ev y=some (.int ki q):=by rfl)(hr:decide (p>q)=false:=by exact dF)(hd:Nat.blt d n=true:=by rfl):LW P n c ops Q (⟨some d,.binOp .gtr xt x y yt,ty,pos,af,none⟩::rest) e h:=LW.gtr _ hx hy hr hd k
theorem LW.geqT (k:LW P n c ops Q rest ((d,.bool true)::e) h)(hx:e.ev x=some (.int ki p):=by rfl)(hy:e.ev y=some (.int ki q):=by rfl)(hr:decide (p>=q)=true:=by exact dT)(hd:Nat.blt d n=true:=by rfl):LW P n c ops Q (⟨some d,.binOp .geq xt x y yt,ty,pos,af,none⟩::rest) e h:=LW.geq _ hx hy hr hd k
theorem LW.geqF (k:LW P n c ops Q rest ((d,.bool false)::e) h)(hx:e.ev x=some (.int ki p):=by rfl)(hy:e.ev y=some (.int ki q):=by rfl)(hr:decide (p>=q)=false:=by exact dF)(hd:Nat.blt d n=true:=by rfl):LW P n c ops Q (⟨some d,.binOp .geq xt x y yt,ty,pos,af,none⟩::rest) e h:=LW.geq _ hx hy hr hd k
theorem LW.ld (ht:oneB P t=true)(k:LW P n c ops Q rest ((d,v)::e) h)(hx:e.ev x=some (.pointer (some ⟨b,o,none⟩)):=by rfl)(tk:Take [cr b u l] h h':=by exact .t)(hv:l[o]?=some v:=by rfl)(hd:Nat.blt d n=true:=by rfl):LW P n c ops Q (⟨some d,.load t x,ty,pos,af,none⟩::rest) e h:=LW.load hx tk hv ht hd k
theorem LW.bx (k:∀ b,LW P n c ops Q rest ((d,.pointer (some ⟨b,0,none⟩))::e) ([cr b t v.cells.toList]::h))(hx:e.ev x=some v:=by rfl)(hd:Nat.blt d n=true:=by rfl):LW P n c ops Q (⟨some d,.box t x,ty,pos,af,none⟩::rest) e h:=LW.box hx hd k
theorem LW.sr (hz:(P.info? t).map (·.size)=some 1)(k:LW P n c ops Q rest e ([cr b u (l.set o v)]::h'))(hx:e.ev x=some (.pointer (some ⟨b,o,none⟩)):=by rfl)(hy:e.ev y=some v:=by rfl)(tk:Take [cr b u l] h h':=by exact .t)(ho:Nat.blt o l.length=true:=by rfl)(h1:v.oneCell'=true:=by rfl):LW P n c ops Q (⟨none,.store t x y,ty,pos,af,none⟩::rest) e h:=LW.store hx hy tk (Nat.le_of_ble_eq_true ho) hz h1 k
def isAg:TypeDesc->Bool
 | .struct _=>true
 | .array _ _=>true
 | _=>false
theorem LW.lA {td:TypeDesc}{m:Nat}(cs:List Value)(hu:P.underlying t=some td)(hz:(P.info? t).map (·.size)=some m)(k:LW P n c ops Q rest ((d,.agg cs.toArray)::e) h)(hm:cs.length=m:=by rfl)(hx:e.ev x=some (.pointer (some ⟨b,o,none⟩)):=by rfl)(tk:Take [cr b u l] h h':=by exact .t)(hv:∀ j v,cs[j]?=some v->l[o+j]?=some v:=by exact zd)(hg:isAg td=true:=by rfl)(hd:Nat.blt d n=true:=by rfl):LW P n c ops Q (⟨some d,.load t x,ty,pos,af,none⟩::rest) e h:=LW.loadAgg cs hx tk hv hu (by cases td<;>first | rfl | cases hg) (by rw [hz,hm]) hd k
theorem LW.pn {el:Nat}{p:Option Addr}{r:Bool}(ht:P.underlying xt=some (.pointer el))(k:LW P n c ops Q rest ((d,.bool r)::e) h)(hx:e.ev x=some (.pointer p):=by rfl)(hr:p.isNone=r:=by rfl)(hd:Nat.blt d n=true:=by rfl):LW P n c ops Q (⟨some d,.binOp .eql xt x (.const (.pointer none)) yt,ty,pos,af,none⟩::rest) e h:=LW.ptrNil r hx ht hr hd k
theorem LW.ad (r:Int)(k:LW P n c ops Q rest ((d,.int ki r)::e) h)(hx:e.ev x=some (.int ki p):=by rfl)(hy:e.ev y=some (.int ki q):=by rfl)(hr:ki.wrap (p+q)=r:=by first | rfl | exact wr64 (by omega) (by omega) (by omega))(hd:Nat.blt d n=true:=by rfl):LW P n c ops Q (⟨some d,.binOp .add xt x y yt,ty,pos,af,none⟩::rest) e h:=LW.add r hx hy hr hd k
theorem LW.bd {parts:List (Nat×Operand)}(vs:List Value)(cs:Array Value)(k:LW P n c ops Q rest ((d,.agg cs)::e) h)(hp:e.Evs (parts.map (·.2)) vs:=by repeat (first | exact trivial | refine⟨rfl,?_⟩))(hb:P.built t ((parts.map (·.1)).zip vs)=some cs:=by kernel_rfl)(hd:Nat.blt d n=true:=by rfl):LW P n c ops Q (⟨some d,.build t parts.toArray,ty,pos,af,none⟩::rest) e h:=LW.build cs hp hb hd k
theorem LW.eG {f:Nat}{xs:List Operand}{ats:Array TypeId}{args:List Value}{pre post:List Row}{v:Value}(spec:Spec P c.W c.B f args pre (fun r p=>r=v/\p=post))(hc:Callee P f)(k:LW P n c ops Q rest ((d,v)::e) (post::h'))(hargs:e.Evs xs args:=by repeat (first | exact trivial | refine⟨rfl,?_⟩))(tk:Take pre h h':=by exact .t)(hd:Nat.blt d n=true:=by rfl) :
 LW P n c ops Q (⟨some d,.call { callee:=.value (.func f),args:=xs.toArray,argTypes:=ats },ty,pos,af,none⟩::rest) e h:=LW.callG spec hc hargs tk hd fun _ _ ⟨h1,h2⟩=>by rw [h1,h2];exact k
theorem LW.eT {f:Nat}{xs:List Operand}{ats:Array TypeId}{args:List Value}{pre post:List Row}{v:Value}(spec:Spec P c.W c.B f args pre (fun r p=>r=v/\p=post))(hc:Callee P f)(tk:Take pre h h')(k:LW P n c ops Q rest ((d,v)::e) (post::h'))(hargs:e.Evs xs args:=by repeat (first | exact trivial | refine⟨rfl,?_⟩))(hd:Nat.blt d n=true:=by rfl) :
 LW P n c ops Q (⟨some d,.call { callee:=.value (.func f),args:=xs.toArray,argTypes:=ats },ty,pos,af,none⟩::rest) e h:=LW.callG spec hc hargs tk hd fun _ _ ⟨h1,h2⟩=>by rw [h1,h2];exact k
theorem NW.r1 {fn:Func}{R:Value->List Row->Prop}{v:Value}(hR:∃ post,R v post/\Sub post h.flatten)(hr:fn.results=#[.tmp t]:=by rfl)(hv:e.get t=some v:=by rfl):NW n c .ret (bodyPost P fn (Ret c R)) e h:=NW.ret1 hr hv hR
end
end Go.Proofs.YtnlpccoigflheaaGreatDoor
