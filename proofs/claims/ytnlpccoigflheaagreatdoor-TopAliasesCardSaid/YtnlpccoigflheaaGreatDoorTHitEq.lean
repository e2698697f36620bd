/- Kept4 Conv2 Help4 Beg4 TBeg7 TBeg13a THitEq -/
import Derived.Test.YtnlpccoigflheaaGreatDoorKept3
import Derived.Test.YtnlpccoigflheaaGreatDoorDev2
import Derived.Test.YtnlpccoigflheaaGreatDoorMapX
import Derived.Test.YtnlpccoigflheaaGreatDoorSlot1
import Derived.Laws.StructEq
import Derived.Test.YtnlpccoigflheaaGreatDoorFac
namespace Go.Proofs.YtnlpccoigflheaaGreatDoor
open Go.RowKit
open Go.Proofs.Tryz
def TuJ:Tbl:=⟨[(72,0,0),(256,1,1)],[],[22,24,25,37,65,85,166,210]⟩
theorem uJ:TuJ.Ok Tryz.prog:=.of (⟨⟨_,Tryz.underlying22⟩,⟨_,Tryz.underlying24⟩,⟨_,Tryz.underlying25⟩,⟨_,Tryz.underlying37⟩,⟨_,Tryz.underlying65⟩,⟨_,Tryz.underlying85⟩,⟨_,Tryz.underlying166⟩,⟨_,Tryz.underlying210⟩,trivial⟩)
theorem hold_flat {n:Nat}{d:DevS}{P:(Nat->List UInt8)->Prop}(hf:Flat d)(h:P d.N)(hc:∀ X,(∀ i,i<n->X i=d.N i)->P d.N->P X):Hold n d P:=fun X hX=>hc X (fun i hi=>Mix.flat hX hf hi) h
theorem hold_slot {n:Nat}{d:DevS}(hf:Flat d)(hn:2<=n){s:Int}{ns:List Int}(h:SlotAt d.N s ns):Hold n d (SlotAt · s ns):=hold_flat hf h (fun _ hX h=>h.congr (hX 0 (by omega)) (hX 1 (by omega)))
theorem hold_log {n:Nat}{d:DevS}(hf:Flat d)(hn:64<=n){g:LogS}(hg:g.Fine n)(h:LogAt d.N g):Hold n d (LogAt · g):=hold_flat hf h (fun _ hX h=>h.congr hg hn (fun i hi=>hX i (by omega)))
theorem Hold.crash {n:Nat}{d:DevS}(hd:d.Ok n){P:(Nat->List UInt8)->Prop}(h:Hold n d P)(keep:List Bool):P (d.crash n keep).N:=h _ (crash_mix hd keep)
theorem ok_len {n:Nat}{d:DevS}(hd:d.Ok n){i:Nat}(hi:i<n):(d.N i).length=64:=hd.now.get (hd.now.getD hi)
theorem zero_slot (n:Nat)(hn:2<=n):SlotAt (DevS.zero n).N 0 []:=by
 have h:∀ i,i<n->(DevS.zero n).N i=zSec:=fun i hi=>by
  show (List.replicate n zSec).getD i []=zSec
  simp [List.getD,hi]
 exact SlotAt.zero (h 0 (by omega)) (h 1 (by omega))
theorem zero_flat (n:Nat):Flat (DevS.zero n):=rfl
theorem zero_up (n:Nat):Up (DevS.zero n):=⟨rfl,rfl⟩
theorem fine_new (n:Nat){s:Int}(h0:0<=s)(h1:s<=999999999){a l:Int}(ha:I64 a)(hl:I64 l):LogS.Fine n ⟨s+1,a,l,[]⟩:=⟨by show 1<=s+1;omega,by show s+1<=_;omega,ha,hl,fun b hb=>(by cases hb),Nat.zero_le _⟩
theorem Fine.app {n:Nat}{g:LogS}(hg:g.Fine n){b:List UInt8}(hb:okRec b)(hs:g.serial<=999999999)(hf:g.used+b.length+2<=ringN n):LogS.Fine n ⟨g.serial+1,g.area,g.length,g.recs++[b]⟩:=
 ⟨by have:=hg.s1;show 1<=g.serial+1;omega,by show g.serial+1<=_;omega,hg.area,hg.length,fun x hx=>by
  rcases List.mem_append.1 hx with hx | hx
  . exact hg.recs x hx
  . simp at hx;subst hx;exact hb,by show (recsB (g.recs++[b])).length<=_;rw [recsB_len_app];unfold LogS.used at hf;omega⟩
theorem Fine.reset {n:Nat}{g:LogS}(hg:g.Fine n)(hs:g.serial<=999999999){a l:Int}(ha:I64 a)(hl:I64 l):LogS.Fine n ⟨g.serial+1,a,l,[]⟩:=fine_new n (by have:=hg.s1;omega) hs ha hl
theorem appendL_up {n:Nat}{d:DevS}(hd:d.Ok n)(hu:Up d){g:LogS}(hg:g.Fine n)(b:List UInt8)(hb:okRec b)(hf:g.used+b.length+2<=ringN n):(appendL n d g.log b).1=0/\Up (appendL n d g.log b).2.1:=by
 have hn0:=hd.n0
 have hw:=writeL_up hd hu g.used (recB b) (by rw [recB_len];unfold ringN at hf;omega) (by rw [recB_len];omega)
 have hwk:=writeL_dev hd g.used (recB b)
 have hlu:g.log.used=g.used:=rfl
 unfold appendL
 rw [if_neg (by have:=hb.1;have:=hb.2;omega),if_neg (by rw [hlu];omega),hlu,if_pos hw.1]
 exact setsL_up hwk hw.2 g.log (by have:=hg.s1;show 0<=g.serial;omega) _ _ _
theorem appended {n:Nat}{d:DevS}{g:LogS}{b:List UInt8}{r:Int×DevS×LogV}(h:AppOut n d g b r)(he:r.1=0):Flat r.2.1/\r.2.2=LogS.log ⟨g.serial+1,g.area,g.length,g.recs++[b]⟩/\LogAt r.2.1.N ⟨g.serial+1,g.area,g.length,g.recs++[b]⟩/\okRec b/\g.used+b.length+2<=ringN n:=by
 rcases h.cases with ⟨h1,_⟩ | ⟨h1,_⟩ | ⟨_,h2,h3,h4,h5,h6⟩ | ⟨h1,_⟩
 . rw [he] at h1;cases h1
 . rw [he] at h1;cases h1
 . exact⟨h4,h5,h6,h2,h3⟩
 . rw [he] at h1;cases h1
structure PutOut (n:Nat)(d:DevS)(g:LogS)(t:List UInt8)(r:Int×DevS×LogV):Prop where
 ok:r.2.1.Ok n
 other:∀ j,2<=j->(j<beginN n (putTo g.log)\/beginN n (putTo g.log)+n/4<=j)->r.2.1.N j=d.N j/\(r.2.1.V j=d.V j\/r.2.1.V j=d.N j)
 cases:(r.1=11/\mostN n<t.length/\r.2.1=d/\r.2.2=g.log) \/
  (r.1=0/\t.length<=mostN n/\Flat r.2.1/\r.2.2=LogS.log ⟨g.serial+1,putTo g.log,t.length,[]⟩/\LogAt r.2.1.N ⟨g.serial+1,putTo g.log,t.length,[]⟩/\AreaIs r.2.1.N (beginN n (putTo g.log)) t) \/
  (r.1=9/\t.length<=mostN n/\r.2.1.down=true/\∀ X,Mix n r.2.1 X->LogAt X g\/(LogAt X ⟨g.serial+1,putTo g.log,t.length,[]⟩/\AreaIs X (beginN n (putTo g.log)) t))
theorem putTo_two (L:LogV):putTo L=1\/putTo L=2:=by unfold putTo;split<;>simp
theorem putL_spec {n:Nat}{d:DevS}(hd:d.Ok n){g:LogS}(hg:g.Fine n)(hs:g.serial<=999999999)(h:Hold n d (LogAt · g))(t:List UInt8)(ht:t.length<=1000000):PutOut n d g t (putL n d g.log t):=by
 have hn0:=hd.n0
 have hn1:=hd.n1
 have hto:=putTo_two g.log
 unfold putL
 by_cases h1:mostN n<t.length
 . rw [if_pos h1]
   exact⟨hd,fun _ _ _=>⟨rfl,.inl rfl⟩,.inl ⟨rfl,h1,rfl,rfl⟩⟩
 . rw [if_neg h1]
   have hfit:beginN n (putTo g.log)+(t.length+63)/64<=beginN n (putTo g.log)+n/4:=by unfold mostN at h1;omega
   have hend:beginN n (putTo g.log)+n/4<=n:=by unfold beginN;rcases hto with k | k<;>rw [k]<;>omega
   have hbeg:n/2<=beginN n (putTo g.log):=by unfold beginN;omega
   have hw:=wr_spec n _ d (beginN n (putTo g.log)) t (Nat.le_refl _) hd (by omega)
   have hwk:(wrO n d (beginN n (putTo g.log)) t).2.Ok n:=wrO_okDev n _ d _ _ hd
   generalize wrO n d (beginN n (putTo g.log)) t=w at hw hwk |-
   obtain⟨e1,d1⟩:=w
   have hwo:=hw.out
   have hwv:=hw.V
   dsimp only at hwo hwv hwk |-
   have hold1:Hold n d1 (LogAt · g):=fun X hX=>by
     have hM:Mix n d (fun i=>if i<n/2 then X i else d.N i):=fun i hi=>by
       by_cases h2:i<n/2
       . rcases hX i hi with k | k
         . exact .inl ((if_pos h2).trans (k.trans (hwo i (by omega))))
         . exact .inr ((if_pos h2).trans (k.trans (by rw [hwv])))
       . exact .inl (if_neg h2)
     exact (h _ hM).congr hg hn0 (fun i hi=>by simp only [hi,if_true])
   have hother:∀ j,2<=j->(j<beginN n (putTo g.log)\/beginN n (putTo g.log)+n/4<=j)->d1.N j=d.N j/\(d1.V j=d.V j\/d1.V j=d.N j):=fun j _ hj=>⟨hwo j (by omega),.inl (by rw [hwv])⟩
   by_cases he:e1=0
   . rw [if_neg (fun k=>k he)]
     have hA:AreaIs d1.N (beginN n (putTo g.log)) t:=hw.area he
     cases hdn:d1.down
     . have hfe:d1.flushE=0:=by rw [flushE_two,hdn];rfl
       rw [if_neg (fun k=>k hfe)]
       have hff:=flush_flat (n:=n) hdn
       have hlog2:LogAt (d1.flush n).N g:=by rw [flush_N];exact hold1 d1.N (Mix.self n d1)
       have hA2:AreaIs (d1.flush n).N (beginN n (putTo g.log)) t:=by rw [flush_N];exact hA
       have hsp:=resetL_spec (area:=(putTo g.log:Int)) (length:=(t.length:Int)) hwk.flush hg hs ⟨by omega,by omega⟩ ⟨by omega,by omega⟩ (hold_log hff hn0 hg hlog2)
       have hN2:(d1.flush n).N=d1.N:=flush_N
       generalize resetL n (d1.flush n) g.log (putTo g.log:Int) (t.length:Int)=r at hsp |-
       obtain⟨h3,h4,h5⟩:=hsp
       refine⟨h3,fun j hj hjo=>?_,?_⟩
       . have h6:=h4 j hj
         have h7:=(hother j hj hjo).1
         refine⟨h6.1.trans (by rw [hN2];exact h7),.inr ?_⟩
         rcases h6.2 with k | k
         . rw [k,hff.V,hN2];exact h7
         . rw [k,hN2];exact h7
       . rcases h5 with ⟨he2,hf2,hL2,hA3⟩ | ⟨he2,hd2,_,hA3⟩
         . exact .inr (.inl ⟨he2,by omega,hf2,hL2,hA3,hA2.congr (fun j hj=>(h4 _ (by omega)).1)⟩)
         . refine .inr (.inr ⟨he2,by omega,hd2,fun X hX=>(hA3 X hX).imp id (fun k=>⟨k,hA2.congr (fun j hj=>?_)⟩)⟩)
           have h6:=h4 (beginN n (putTo g.log)+j/64) (by omega)
           rcases hX (beginN n (putTo g.log)+j/64) (by omega) with k | k
           . rw [k];exact h6.1
           . rcases h6.2 with k2 | k2
             . rw [k,k2,hff.V]
             . rw [k,k2]
     . have hfe:d1.flushE≠0:=by rw [flushE_two,if_pos hdn];decide
       rw [if_pos hfe,flush_down hdn]
       exact⟨hwk,hother,.inr (.inr ⟨by rw [flushE_two,if_pos hdn],by omega,hdn,fun X hX=>.inl (hold1 X hX)⟩)⟩
   . rw [if_pos he]
     rcases hw.two with k | ⟨k,hdn⟩
     . exact absurd k he
     . exact⟨hwk,hother,.inr (.inr ⟨k,by omega,hdn,fun X hX=>.inl (hold1 X hX)⟩)⟩
theorem putL_up {n:Nat}{d:DevS}(hd:d.Ok n)(hu:Up d){g:LogS}(hg:g.Fine n)(t:List UInt8)(ht:t.length<=mostN n):(putL n d g.log t).1=0/\Up (putL n d g.log t).2.1:=by
 have hn0:=hd.n0
 have hto:=putTo_two g.log
 have hend:beginN n (putTo g.log)+n/4<=n:=by unfold beginN;rcases hto with k | k<;>rw [k]<;>omega
 have hw:=wr_up n _ d (beginN n (putTo g.log)) t (Nat.le_refl _) hu (by unfold mostN at ht;omega)
 have hwk:(wrO n d (beginN n (putTo g.log)) t).2.Ok n:=wrO_okDev n _ d _ _ hd
 unfold putL
 rw [if_neg (by omega),if_neg (fun k=>k hw.1),if_neg (fun k=>k (by rw [flushE_two,hw.2.1];rfl))]
 exact resetL_up hwk.flush hw.2.flush g.log (by have:=hg.s1;show 0<=g.serial;omega) _ _
theorem getL_area {n:Nat}{X:Nat->List UInt8}{L:LogV}{a:Nat}{t:List UInt8}(ha:L.area=(a:Int))(ha2:a=1\/a=2)(hl:L.length=(t.length:Int))(hm:t.length<=mostN n)(hX:∀ i,i<n->(X i).length=64)(h:AreaIs X (beginN n a) t):getL n X L=(0,t):=by
 have hend:beginN n a+n/4<=n:=by unfold beginN;rcases ha2 with k | k<;>rw [k]<;>omega
 rw [getL,if_neg (by omega),if_neg (by omega),ha,hl,Int.toNat_natCast,Int.toNat_natCast,areaC_eq (fun k hk=>hX _ (by unfold mostN at hm;omega)) h]
open Go.RowKit
section
variable {P:Program}{n:Nat}{c:Ctx}{Q:Exit->Act->World->Prop}{e:Env}{h:Heap}{ops:Array Oper}{rest:List Oper}{d ty:Nat}{pos:String}{af:Array Edge}
abbrev marked (b:Nat)(t:TypeId)(l:List Value):Row:=⟨b,.cells l.toArray t (l.length,l.length+1)⟩
theorem Src.marked {W:World}{B:Nat}{b:Nat}{t:TypeId}{l:List Value}:Src W B [marked b t l] (Option.some ⟨b,0,none⟩) l:=
 .inr ⟨_,rfl,.inr ⟨b,0,(t,l.length,l.length+1),l,rfl,by simp,fun j v hj=>by rw [Nat.zero_add];exact hj⟩⟩
theorem LW.mark {t el:Nat}{x:Operand}{b m cap:Nat}{u:TypeId}{l:List Value}{h':Heap}(hx:e.ev x=some (.slice (some ⟨b,0,none⟩) m cap))(ht:P.underlying t=some (.slice el))(he:P.underlying el=some (.int .u8))(tk:Take [cr b u l] h h')(hd:Nat.blt d n=true)
  (k:LW P n c ops Q rest ((d,.slice (some ⟨b,0,none⟩) m cap)::e) ([marked b u l]::h')):LW P n c ops Q (⟨some d,.convert t t x,ty,pos,af,none⟩::rest) e h:=
 LW.act hd fun a w hf s=>by
  have hr:=s.row tk
  have hlt:=row_lt hr
  have hsh:w.shape? b=some (u,l.length):=by simp [World.shape?,hr]
  refine⟨_,_,w.freeze ⟨b,l.length,none⟩ 1,?_,s.set (o':=.cells l.toArray u (l.length,l.length+1)) tk rfl rfl rfl ?_ ?_ ?_,k⟩
  . simp [execOp,hf.eval hx,convert,run_underlying ht,run_underlying he,markStringish,hsh]
  . simp [World.freeze]
  . simp [World.freeze,Array.getElem?_modify,hr]
  . intro q hq
    simp [World.freeze,Array.getElem?_modify,Ne.symm hq]
end
open Go.RowKit
open Go.RowKit
section
variable (W:World)(B:Nat)
theorem law_Begun1 (h0:0<B)(hg:W.cell? ⟨0,0,none⟩=some (rty 43)):Spec prog W B 391 [] [] (fun v post=>v=.bool true/\post=[]):=by
 refine Spec.eG [] func391 ntmps391 fun w0=>?_
 refine CW.go uJ 7 rfl (LW.eT (law_begun W B h0 hg) cl393 (Take.none _) ?_)
 refine LW.go uJ 4 rfl ?_
 refine NW.r1 ⟨_,⟨rfl,rfl⟩,?_⟩
 exact Sub.nil _
theorem append_ok {n:Nat}{d:DevS}(hd:d.Ok n)(hu:Up d)(hf:Flat d){g:LogS}(hg:g.Fine n)(h:LogAt d.N g)(hs:g.serial<=999999999){b:List UInt8}(hb:okRec b)(hfit:g.used+b.length+2<=ringN n) :
  (appendL n d g.log b).1=0/\(appendL n d g.log b).2.1.Ok n/\Up (appendL n d g.log b).2.1/\Flat (appendL n d g.log b).2.1/\(appendL n d g.log b).2.2=LogS.log ⟨g.serial+1,g.area,g.length,g.recs++[b]⟩/\LogAt (appendL n d g.log b).2.1.N ⟨g.serial+1,g.area,g.length,g.recs++[b]⟩/\LogS.Fine n ⟨g.serial+1,g.area,g.length,g.recs++[b]⟩:=by
 have hu2:=appendL_up hd hu hg b hb hfit
 have hsp:=appendL_spec hd hg hs (hold_log hf hd.n0 hg h) b
 obtain⟨h1,h2,h3,_,_⟩:=appended hsp hu2.1
 exact⟨hu2.1,appendL_dev hd _ _,hu2.2,h1,h2,h3,Fine.app hg hb hs hfit⟩
theorem put_ok {n:Nat}{d:DevS}(hd:d.Ok n)(hu:Up d)(hf:Flat d){g:LogS}(hg:g.Fine n)(h:LogAt d.N g)(hs:g.serial<=999999999){t:List UInt8}(ht:t.length<=mostN n) :
   (putL n d g.log t).1=0/\(putL n d g.log t).2.1.Ok n/\Up (putL n d g.log t).2.1/\Flat (putL n d g.log t).2.1/\(putL n d g.log t).2.2=LogS.log ⟨g.serial+1,putTo g.log,t.length,[]⟩/\LogAt (putL n d g.log t).2.1.N ⟨g.serial+1,putTo g.log,t.length,[]⟩/\AreaIs (putL n d g.log t).2.1.N (beginN n (putTo g.log)) t/\LogS.Fine n ⟨g.serial+1,putTo g.log,t.length,[]⟩:=by
 have hu2:=putL_up hd hu hg t ht
 have hn1:=hd.n1
 have htm:t.length<=1000000:=by unfold mostN at ht;omega
 have hsp:=putL_spec hd hg hs (hold_log hf hd.n0 hg h) t htm
 have hto:=putTo_two g.log
 rcases hsp.cases with ⟨he,_⟩ | ⟨_,_,h1,h2,h3,h4⟩ | ⟨he,_⟩
 . rw [hu2.1] at he;cases he
 . exact⟨hu2.1,hsp.ok,hu2.2,h1,h2,h3,h4,Fine.reset hg hs ⟨by omega,by omega⟩ ⟨by omega,by omega⟩⟩
 . rw [hu2.1] at he;cases he
theorem crash_log {n:Nat}{d:DevS}(hd:d.Ok n)(hf:Flat d){g:LogS}(hg:g.Fine n)(h:LogAt d.N g)(keep:List Bool):LogAt (d.crash n keep).N g:=(hold_log hf hd.n0 hg h).crash hd keep
theorem crash_slot {n:Nat}{d:DevS}(hd:d.Ok n)(hf:Flat d){s:Int}{ns:List Int}(h:SlotAt d.N s ns)(keep:List Bool):SlotAt (d.crash n keep).N s ns:=(hold_slot hf (by have:=hd.n0;omega) h).crash hd keep
theorem log_open {n:Nat}{d:DevS}(hd:d.Ok n){g:LogS}(hg:g.Fine n)(h:LogAt d.N g):openL n d.N=some g.view:=h.open_ hg (fun _ hi=>ok_len hd hi) hd.n0
structure Rest (n:Nat)(d:DevS):Prop where
 ok:d.Ok n
 up:Up d
 flat:Flat d
theorem Rest.crash {n:Nat}{d:DevS}(h:d.Ok n)(keep:List Bool):Rest n (d.crash n keep):=⟨h.crash keep,crash_up _ _ _,crash_flat _ _ _⟩
theorem Rest.zero {n:Nat}(h0:64<=n)(h1:n<=4096):Rest n (DevS.zero n):=⟨DevS.Ok.zero h0 h1,zero_up n,zero_flat n⟩
theorem slot_Make_ok (p bn bw bl n:Nat)(s:DevS)(hs:s.Ok n)(hu:Up s){sr:Int}{ns:List Int}(h:Hold n s (SlotAt · sr ns))(h1:sr<=999999999)(ns':List Int)(hns:∀ n∈ns',I64 n)(h4:ns'.length<=4)(src:List Row)(A:Option Addr)(cp:Nat)(hsrc:Src W B src A (ns'.map i64v)) :
   Spec prog W B 69 [.pointer (some ⟨p,0,none⟩),.slice A ns'.length cp] (src++devC p bn bw bl n s)
     (fun v post=>∃ q d,v=.tuple #[.pointer (some ⟨q,0,none⟩),.int .i64 0]/\Rest n d/\SlotAt d.N (sr+1) ns'/\(∀ i,2<=i->d.N i=s.N i)/\post=src++([slC q p (sr+1) false]++devC p bn bw bl n d)):=by
 have hnw:=(h s.N (Mix.self n s)).newest
 have hs0:=(h s.N (Mix.self n s)).1
 have hu2:=set_up (ns:=ns') hs hu hs0
 have hok:=setS_ok hs sr ns'
 refine (slot_Make W B p bn bw bl n s hs (by rw [hnw];exact hs0) (by rw [hnw];show sr<=_;omega) ns' hns h4 src A cp hsrc).mono ?_
 rw [hnw]
 rintro v post (⟨_,q,rfl,rfl⟩ | ⟨he,_⟩)
 . rcases set_spec hs h (by omega) h4 hns with ⟨_,hx⟩ | ⟨he,_⟩
   . exact⟨q,_,rfl,⟨hok,hu2.2,hx.flat⟩,hx.slot,hx.same,rfl⟩
   . rw [hu2.1] at he;cases he
 . exact absurd hu2.1 he
theorem slot_Set_ok (q p bn bw bl n:Nat)(s:DevS)(hs:s.Ok n)(hu:Up s){sr:Int}{ns:List Int}(h:Hold n s (SlotAt · sr ns))(h1:sr<=999999999)(ns':List Int)(hns:∀ n∈ns',I64 n)(h4:ns'.length<=4)(src:List Row)(A:Option Addr)(cp:Nat)(hsrc:Src W B src A (ns'.map i64v)) :
   Spec prog W B 92 [.pointer (some ⟨q,0,none⟩),.slice A ns'.length cp] (src++([slC q p sr false]++devC p bn bw bl n s))
    (fun v post=>v=.int .i64 0/\∃ d,Rest n d/\SlotAt d.N (sr+1) ns'/\(∀ i,2<=i->d.N i=s.N i)/\post=src++([slC q p (sr+1) false]++devC p bn bw bl n d)):=by
 have hs0:=(h s.N (Mix.self n s)).1
 have hu2:=set_up (ns:=ns') hs hu hs0
 have hok:=setS_ok hs sr ns'
 refine (slot_Set W B q p bn bw bl n s hs sr hs0 (by omega) ns' hns h4 src A cp hsrc).mono ?_
 rintro v post ⟨rfl,rfl⟩
 rw [hu2.1]
 rcases set_spec hs h (by omega) h4 hns with ⟨_,hx⟩ | ⟨he,_⟩
 . exact⟨rfl,_,⟨hok,hu2.2,hx.flat⟩,hx.slot,hx.same,by simp⟩
 . rw [hu2.1] at he;cases he
theorem slot_Open_ok (p bn bw bl n:Nat)(s:DevS)(hs:s.Ok n){sr:Int}{ns:List Int}(h:SlotAt s.N sr ns)(h1:1<=sr) :
   Spec prog W B 183 [.pointer (some ⟨p,0,none⟩)] (devC p bn bw bl n s)
    (fun v post=>∃ q v2 ch,v=.tuple #[.pointer (some ⟨q,0,none⟩),v2,.int .i64 0]/\OwnS 2 1 v2 ns.length (ns.map i64v) ch/\post=ch++([slC q p sr false]++devC p bn bw bl n s)):=by
 refine (slot_Open W B p bn bw bl n s hs).mono ?_
 rw [h.newest]
 rintro v post (⟨he,_⟩ | ⟨_,hx⟩)
 . exact absurd he (by show sr≠0;omega)
 . exact hx
theorem wal_Make_ok (p bn bw bl n:Nat)(s:DevS)(hs:s.Ok n)(hu:Up s){sr:Int}{ns:List Int}(h:Hold n s (SlotAt · sr ns))(h1:sr<=999999998) :
   Spec prog W B 26 [.pointer (some ⟨p,0,none⟩)] (devC p bn bw bl n s)
     (fun v post=>∃ l q d,v=.tuple #[.pointer (some ⟨l,0,none⟩),.int .i64 0]/\Rest n d/\LogS.Fine n ⟨sr+1,0,0,[]⟩/\LogAt d.N ⟨sr+1,0,0,[]⟩/\(∀ i,2<=i->d.N i=s.N i)/\post=logC l q p (LogS.log ⟨sr+1,0,0,[]⟩)++devC p bn bw bl n d):=by
 have hnw:=(h s.N (Mix.self n s)).newest
 have hs0:=(h s.N (Mix.self n s)).1
 have hu2:=set_up (ns:=[0,0,0]) hs hu hs0
 have hok:=setS_ok hs sr [0,0,0]
 refine (wal_Make W B p bn bw bl n s hs (by rw [hnw];exact hs0) (by rw [hnw];show sr<=_;omega)).mono ?_
 rw [hnw]
 rintro v post (⟨_,l,q,rfl,rfl⟩ | ⟨he,_⟩)
 . rcases set_spec hs h (by omega) (ns':=[0,0,0]) (by decide) (by intro x hx;simp at hx;subst hx;exact⟨by decide,by decide⟩) with ⟨_,hx⟩ | ⟨he,_⟩
   . exact⟨l,q,_,rfl,⟨hok,hu2.2,hx.flat⟩,fine_new n hs0 (by omega) ⟨by decide,by decide⟩ ⟨by decide,by decide⟩,⟨hx.slot,AreaIs.nil⟩,hx.same,rfl⟩
   . rw [hu2.1] at he;cases he
 . exact absurd hu2.1 he
theorem wal_Open_ok (p bn bw bl n:Nat)(s:DevS)(hs:s.Ok n){g:LogS}(hg:g.Fine n)(h:LogAt s.N g) :
   Spec prog W B 121 [.pointer (some ⟨p,0,none⟩)] (devC p bn bw bl n s)
    (fun v post=>∃ l q v2 vs ch ar,v=.tuple #[.pointer (some ⟨l,0,none⟩),v2,.int .i64 0]/\OwnS 65 1 v2 g.recs.length vs ch/\RecsAt W B ar vs g.recs/\post=ch++(ar++(logC l q p g.log++devC p bn bw bl n s))):=by
 refine (wal_Open W B p bn bw bl n s hs).mono ?_
 rw [log_open hs hg h]
 rintro v post (⟨he,_⟩ | ⟨o,l,q,v2,vs,ch,ar,he,rfl,h2,h3,rfl⟩)
 . cases he
 . cases he
   exact⟨l,q,v2,vs,ch,ar,rfl,h2,h3,rfl⟩
theorem wal_Append_ok (l q p bn bw bl n:Nat)(s:DevS)(hr:Rest n s){g:LogS}(hg:g.Fine n)(h:LogAt s.N g)(hs:g.serial<=999999999)(b:List UInt8)(hb:okRec b)(hfit:g.used+b.length+2<=ringN n)(src:List Row)(A:Option Addr)(cp:Nat)(hsrc:Src W B src A (b.map u8v)) :
  Spec prog W B 21 [.pointer (some ⟨l,0,none⟩),.slice A b.length cp] (src++(logC l q p g.log++devC p bn bw bl n s))
   (fun v post=>v=.int .i64 0/\∃ d,Rest n d/\LogS.Fine n ⟨g.serial+1,g.area,g.length,g.recs++[b]⟩/\LogAt d.N ⟨g.serial+1,g.area,g.length,g.recs++[b]⟩/\(∀ i,n/2<=i->d.N i=s.N i)/\post=src++(logC l q p (LogS.log ⟨g.serial+1,g.area,g.length,g.recs++[b]⟩)++devC p bn bw bl n d)):=by
 obtain⟨h1,h2,h3,h4,h5,h6,h7⟩:=append_ok hr.ok hr.up hr.flat hg h hs hb hfit
 have hsp:=appendL_spec hr.ok hg hs (hold_log hr.flat hr.ok.n0 hg h) b
 refine (wal_Append W B l q p bn bw bl n s hr.ok g.log (hg.In hr.ok.n1) rfl rfl b src A cp (by have:=hb.2;omega) hsrc).mono ?_
 rintro v post ⟨rfl,rfl⟩
 rw [h1,h5]
 exact⟨rfl,_,⟨h2,h3,h4⟩,h7,h6,fun i hi=>(hsp.high i hi).1,rfl⟩
theorem snap_Put_ok (l q p bn bw bl n:Nat)(s:DevS)(hr:Rest n s){g:LogS}(hg:g.Fine n)(h:LogAt s.N g)(hs:g.serial<=999999999)(t:List UInt8)(ht:t.length<=mostN n)(src:List Row)(A:Option Addr)(cp:Nat)(hsrc:Src W B src A (t.map u8v))(hcp:t.length<=cp) :
  Spec prog W B 390 [.pointer (some ⟨p,0,none⟩),.pointer (some ⟨l,0,none⟩),.slice A t.length cp] (src++(logC l q p g.log++devC p bn bw bl n s))
   (fun v post=>v=.int .i64 0/\∃ d,Rest n d/\LogS.Fine n ⟨g.serial+1,putTo g.log,t.length,[]⟩/\LogAt d.N ⟨g.serial+1,putTo g.log,t.length,[]⟩/\AreaIs d.N (beginN n (putTo g.log)) t/\post=src++(logC l q p (LogS.log ⟨g.serial+1,putTo g.log,t.length,[]⟩)++devC p bn bw bl n d)):=by
 have hn1:=hr.ok.n1
 obtain⟨h1,h2,h3,h4,h5,h6,h7,h8⟩:=put_ok hr.ok hr.up hr.flat hg h hs ht
 refine (snap_Put W B l q p bn bw bl n s hr.ok g.log (hg.In hn1) rfl rfl t (by unfold mostN at ht;omega) src A cp hsrc hcp).mono ?_
 rintro v post ⟨rfl,rfl⟩
 rw [h1,h5]
 exact⟨rfl,_,⟨h2,h3,h4⟩,h8,h6,h7,rfl⟩
theorem snap_Get_at (l q p bn bw bl n:Nat)(s:DevS)(hs:s.Ok n)(L:LogV)(e:Int)(t:List UInt8)(h:getL n s.N L=(e,t)) :
  Spec prog W B 122 [.pointer (some ⟨p,0,none⟩),.pointer (some ⟨l,0,none⟩)] ([logR l q p L]++devC p bn bw bl n s)
   (fun v post=>∃ A cp ch,v=.tuple #[.slice A t.length cp,.int .i64 e]/\Src W B ch A (t.map u8v)/\(A=none->t.length=0)/\t.length<=cp/\post=ch++([logR l q p L]++devC p bn bw bl n s)):=by
 have:=snap_Get W B l q p bn bw bl n s hs L
 rw [h] at this
 refine this.mono ?_
 rintro v post ⟨v2,ch,rfl,⟨A,cp,rfl,h1,h2,h3⟩,rfl⟩
 exact⟨A,cp,ch,rfl,h1,h2,h3,rfl⟩
set_option maxHeartbeats 4000000 in
theorem law_begun4 (h0:0<B)(hg:W.cell? ⟨0,0,none⟩=some (rty 43)):Spec prog W B 388 [] [] (fun v post=>v=.bool true/\post=[]):=by
 have hr0:=Rest.zero (n:=256) (by decide) (by decide)
 have hs0:=zero_slot 256 (by decide)
 refine Spec.eG [] func388 ntmps388 fun w0=>?_
 refine CW.go uJ 7 rfl (LW.cT (dev_New W B 256 (by decide) (by decide)) cl12 (Take.none _) ?_)
 rintro _ _ ⟨p,bn,bw,bl,rfl,rfl⟩
 refine LW.go uJ 7 rfl (LW.pn underlying45 ?_)
 refine LW.go uJ 6 rfl ?_
 generalize DevS.zero 256=d0 at hr0 hs0 |-
 refine CW.go uJ 2 rfl (LW.bs [_,_] underlying166 info2 ?_)
 intro bs22
 refine LW.cT (slot_Make_ok W B p bn bw bl 256 d0 hr0.ok hr0.up (hold_slot hr0.flat (by decide) hs0) (by decide) [4,5] (by intro n hn;simp at hn;rcases hn with rfl | rfl<;>exact⟨by decide,by decide⟩) (by decide) [cr bs22 2 [.int .i64 4,.int .i64 5]] (some ⟨bs22,0,none⟩) 2 (Src.row zd)) cl69 .n2 ?_
 rintro _ _ ⟨q,d1,rfl,hr1,hs1,_,rfl⟩;refine LW.split2 (LW.split2p ?_)
 refine LW.go uJ 10 rfl (LW.bs [_] underlying166 info2 ?_)
 intro bs27
 refine LW.cT (slot_Set_ok W B q p bn bw bl 256 d1 hr1.ok hr1.up (hold_slot hr1.flat (by decide) hs1) (by decide) [6] (by intro n hn;simp at hn;subst hn;exact⟨by decide,by decide⟩) (by decide) [cr bs27 2 [.int .i64 6]] (some ⟨bs27,0,none⟩) 1 (Src.row zd)) cl92 .n3 ?_
 rintro _ _ ⟨rfl,d2,hr2,hs2,_,rfl⟩;refine LW.split2 (LW.split2p ?_)
 refine LW.go uJ 6 rfl (LW.cT (dev_Crash W B p bn bw bl 256 d2 hr2.ok [] none 0 [] Src.nil) cl62 (Take.both (Take.none _) .t) ?_)
 rintro _ _ ⟨cp,cn,cw,cl,rfl,rfl⟩;refine LW.split2 (LW.split2p ?_)
 refine LW.cG (slot_Open_ok W B cp cn cw cl 256 (d2.crash 256 []) (hr2.ok.crash []) (crash_slot hr2.ok hr2.flat hs2 []) (by decide)) cl183 ?_
 rintro _ _ ⟨q2,v2,ch2,rfl,ho2,rfl⟩;obtain⟨A2,cp2,rfl,hA2,hc2⟩:=OwnS.val ho2;refine LW.split2 (LW.split2p ?_)
 refine LW.go uJ 12 rfl (LW.cG (wal_Make_ok W B p bn bw bl 256 d2 hr2.ok hr2.up (hold_slot hr2.flat (by decide) hs2) (by decide)) cl26 ?_)
 rintro _ _ ⟨l,q3,d3,rfl,hr3,hf3,hl3,_,rfl⟩;refine LW.split2 ?_
 refine LW.go uJ 11 rfl (LW.pn underlying59 ?_)
 refine LW.go uJ 8 rfl (LW.bs [_,_,_] underlying65 info5 ?_)
 intro bs44
 refine LW.mark rfl underlying65 underlying5 .t rfl ?_
 refine LW.cT (wal_Append_ok W B l q3 p bn bw bl 256 d3 hr3 hf3 hl3 (by decide) [111,110,101] ⟨by decide,by decide⟩ (by decide) [marked bs44 5 [.int .u8 111,.int .u8 110,.int .u8 101]] (some ⟨bs44,0,none⟩) 3 Src.marked) cl21 .n3 ?_
 rintro _ _ ⟨rfl,d4,hr4,hf4,hl4,_,rfl⟩;refine LW.split2 (LW.split2p ?_)
 refine LW.go uJ 6 rfl (LW.cT (dev_Crash W B p bn bw bl 256 d4 hr4.ok [] none 0 [] Src.nil) cl62 (Take.both (Take.none _) .t) ?_)
 rintro _ _ ⟨ep,en,ew,el,rfl,rfl⟩;refine LW.split2 (LW.split2p ?_)
 refine LW.cG (wal_Open_ok W B ep en ew el 256 (d4.crash 256 []) (hr4.ok.crash []) hf4 (crash_log hr4.ok hr4.flat hf4 hl4 [])) cl121 ?_
 rintro _ _ ⟨l5,q5,v5,vs5,ch5,ar5,rfl,ho5,hr5,rfl⟩;obtain⟨A5,cp5,rfl,hA5,hc5⟩:=OwnS.val ho5;refine LW.split2 (LW.split2p ?_)
 refine LW.go uJ 13 rfl (LW.bs [_,_,_] underlying65 info5 ?_)
 intro bs56
 refine LW.mark rfl underlying65 underlying5 .t rfl ?_
 refine LW.cT (snap_Put_ok W B l q3 p bn bw bl 256 d4 hr4 hf4 hl4 (by decide) [97,108,108] (by decide) [marked bs56 5 [.int .u8 97,.int .u8 108,.int .u8 108]] (some ⟨bs56,0,none⟩) 3 Src.marked (by decide)) cl390 .n3 ?_
 rintro _ _ ⟨rfl,d6,hr6,hf6,hl6,ha6,rfl⟩;refine LW.split2 (LW.split2p (LW.split2p ?_))
 refine LW.go uJ 7 rfl (LW.cT (snap_Get_at W B l q3 p bn bw bl 256 d6 hr6.ok _ 0 [97,108,108] (getL_area (a:=1) rfl (.inl rfl) rfl (by decide) (fun i hi=>ok_len hr6.ok hi) ha6)) cl122 .n2 ?_)
 rintro _ _ ⟨A7,cp7,ch7,rfl,hx7,_,_,rfl⟩;refine LW.split2 ?_
 refine LW.go uJ 9 rfl (LW.eT (law_Begun1 W B h0 hg) cl391 (Take.none _) ?_)
 refine LW.go uJ 4 rfl (LW.eqlT ?_)
 refine LW.go uJ 5 rfl (LW.eqlT ?_)
 refine LW.go uJ 5 rfl (LW.eqlT ?_)
 refine LW.go uJ 7 rfl (LW.eql true rfl rfl (rfl) rfl ?_)
 refine LW.go uJ 5 rfl ?_
 obtain⟨ad2,rfl⟩:∃ a,A2=some a:=(OwnS.src (W:=W) (B:=B) ho2).some (by simp)
 refine LW.indexAt rfl rfl underlying166 ixs166 (by decide) (by decide) rfl ?_
 refine LW.go uJ 1 rfl (LW.loadRd (v:=.int .i64 6) rfl ((OwnS.src ho2).rd .t) (rfl) one2 rfl ?_)
 refine LW.go uJ 1 rfl (LW.eqlT ?_)
 refine LW.go uJ 5 rfl (LW.eqlT ?_)
 refine LW.go uJ 5 rfl (LW.eqlT ?_)
 refine LW.go uJ 5 rfl (LW.eqlT ?_)
 refine LW.go uJ 7 rfl (LW.eql true rfl rfl (rfl) rfl ?_)
 refine LW.go uJ 5 rfl ?_
 obtain⟨Br,qr,hvr,hxr,_,_⟩:=hr5.2 0 (by decide)
 have hgr:vs5[0]?=some (.slice Br 3 qr):=by rw [show Value.slice Br 3 qr=vs5.getD 0 undef from hvr.symm];simp [List.getD,List.getElem?_eq_getElem (show 0<vs5.length by rw [hr5.1];decide)]
 obtain⟨ad5,rfl⟩:∃ a,A5=some a:=(OwnS.src (W:=W) (B:=B) ho5).some (by rw [hr5.1];decide)
 refine LW.indexAt rfl rfl underlying210 ixs210 (by decide) (by decide) rfl ?_
 refine LW.go uJ 1 rfl (LW.loadRd (v:=.slice Br 3 qr) rfl ((OwnS.src ho5).rd .t) (hgr) one65 rfl ?_)
 refine LW.go uJ 1 rfl (LW.bytesStr ([111,110,101]) rfl underlying65 underlying5 underlying9 (hxr.rd .t) (rfl) rfl ?_)
 refine LW.go uJ 1 rfl (LW.strEql (true) rfl rfl underlying9 (decide_eq_true rfl) rfl ?_)
 refine LW.go uJ 5 rfl (LW.eqlT ?_)
 refine LW.go uJ 5 rfl (LW.eqlT ?_)
 refine LW.go uJ 5 rfl (LW.bytesStr ([97,108,108]) rfl underlying65 underlying5 underlying9 (hx7.rd .t) (rfl) rfl ?_)
 refine LW.go uJ 1 rfl (LW.strEql (true) rfl rfl underlying9 (decide_eq_true rfl) rfl ?_)
 refine LW.go uJ 5 rfl ?_
 refine NW.r1 ⟨_,⟨rfl,rfl⟩,?_⟩
 exact Sub.nil _
end
open Go.RowKit
def vsl (y:Nat×List Int):Value:=.slice (some ⟨y.1,0,none⟩) y.2.length y.2.length
theorem vecRow {W:World}{B:Nat}{rows:List Row}(y:Nat×List Int)(h:cr y.1 21 (y.2.map i32v)∈rows):VecAt W B rows (vsl y) y.2:=
 SlAt.more (OwnS.vec (OwnS.row (by simp))) fun x hx=>by simp at hx;subst hx;exact h
theorem vecsRow {W:World}{B:Nat}{rows:List Row}(b:Nat)(l:List (Nat×List Int))(h0:cr b 25 (l.map vsl)∈rows)(h:∀ y∈l,cr y.1 21 (y.2.map i32v)∈rows) :
   VecsAt W B rows (.slice (some ⟨b,0,none⟩) l.length l.length) (l.map fun y=>(vsl y,y.2)):=by
 refine⟨?_,fun x hx=>?_⟩
 . have e:(l.map fun y=>(vsl y,y.2)).map (·.1)=l.map vsl:=by simp
   rw [e,List.length_map]
   exact SlAt.more (OwnS.sl (OwnS.row (t:=25) (sz:=1) (by simp))) fun x hx=>by simp at hx;subst hx;exact h0
 . obtain⟨y,hy,rfl⟩:=List.mem_map.1 hx
   exact vecRow y (h y hy)
theorem VOk.of {xs:List Int}(h:(decide (xs.length<=8) && xs.all fun x=>decide (-1048576<=x) && decide (x<=1048576))=true):VOk xs:=by
 simp at h
 exact⟨h.1,fun x hx=>h.2 x hx⟩
section
variable (W:World)(B:Nat)
theorem law_Begun4 (h0:0<B)(hg:W.cell? ⟨0,0,none⟩=some (rty 43)):Spec prog W B 377 [] [] (fun v post=>v=.bool true/\post=[]):=by
 refine Spec.eG [] func377 ntmps377 fun w0=>?_
 refine CW.go uJ 7 rfl (LW.eT (law_begun4 W B h0 hg) cl388 ((Take.none _)) ?_)
 refine LW.go uJ 4 rfl ?_
 refine NW.r1 ⟨_,⟨rfl,rfl⟩,?_⟩
 exact Sub.nil _
set_option maxHeartbeats 1000000 in
set_option maxRecDepth 4000 in
theorem law_begun7 (h0:0<B)(hg:W.cell? ⟨0,0,none⟩=some (rty 43)):Spec prog W B 348 [] [] (fun v post=>v=.bool true/\post=[]):=by
 have hin:∀ l:List Int,(l.all fun x=>decide (-1048576<=x) && decide (x<=1048576))=true->∀ x∈l,InB x:=fun l h x hx=>by
   have:=List.all_eq_true.1 h x hx
   simp at this
   exact this
 have hlo:lows 1 [[0],[510]]=[0]:=by decide +kernel
 have hst:steps 1 [[0],[510]]=[2]:=by decide +kernel
 have hmd:midsP 2 3 [[0],[10],[2],[12]]=[[1],[11]]:=by decide +kernel
 have hbe:putB 2 (putB 2 (putB 2 [] (1,9)) (2,4)) (3,6)=[(2,4),(3,6)]:=by decide +kernel
 have hnr:nearP [[1],[11]] [9]=1:=by decide +kernel
 have hco:codeF [0] [2] [511]=[255]:=by decide +kernel
 refine Spec.eG [] func348 ntmps348 fun w0=>?_
 refine CW.go uJ 7 rfl (LW.cT (pool_New W B 10 (by omega)) cl262 ((Take.none _)) ?_)
 rintro _ c10 ⟨p,rfl,hp⟩
 refine LW.cT (best_New W B 2 (by omega)) cl212 ((Take.none _)) ?_
 rintro _ c11 ⟨b,rfl,hb⟩
 refine LW.go uJ 8 rfl (LW.pn underlying318 ?_)
 refine LW.go uJ 4 rfl (LW.pn underlying330 ?_)
 refine LW.go uJ 9 rfl (LW.cG (pool_Size W B p 10 [] c10 5 3 hp rfl (by omega)) cl263 ?_)
 rintro _ _ ⟨rfl,u,c19,c19b,zs,rfl,hp2,hou⟩;refine LW.splitA ?_
 refine LW.go uJ 6 rfl (LW.bd [_,_] (#[.int .i64 1,.int .i64 9]) ?_)
 refine LW.cG (best_Put W B b 2 [] (1,9) c11 hb) cl213 ?_
 rintro _ c22 ⟨⟨x22,rfl⟩,hb2⟩
 refine LW.go uJ 5 rfl (LW.bd [_,_] (#[.int .i64 2,.int .i64 4]) ?_)
 refine LW.cG (best_Put W B b 2 _ (2,4) c22 hb2) cl213 ?_
 rintro _ c25 ⟨⟨x25,rfl⟩,hb3⟩
 refine LW.go uJ 5 rfl (LW.bd [_,_] (#[.int .i64 3,.int .i64 6]) ?_)
 refine LW.cG (best_Put W B b 2 _ (3,6) c25 hb3) cl213 ?_
 rintro _ c28 ⟨⟨x28,rfl⟩,hb4⟩;rw [hbe] at hb4
 refine LW.go uJ 5 rfl (LW.cG (best_All W B b 2 _ c28 hb4) cl214 ?_)
 rintro _ _ ⟨c30,ho30,rfl⟩;refine LW.splitA ?_;rcases ho30 with ⟨_,z0,_,_⟩ | ⟨b30,k30,s30,rfl,_,_,_,rfl⟩;cases z0
 refine LW.go uJ 5 rfl (LW.alloc zero99 rfl ?_)
 intro ba5
 refine LW.go uJ 4 rfl (LW.bs [_,_] underlying25 info21 ?_)
 intro bs31
 refine LW.cT (vect_Put W B ba5 (.slice none 0 0) [] [] [cr bs31 21 ([1,-2].map i32v)] (vsl (bs31,[1,-2])) [1,-2] OwnB.nil (vecRow (bs31,[1,-2]) (by simp)) (fun x hx=>(hin [1,-2] rfl x hx).i32) (by decide) (by decide)) cl88 (Take.both .t (Take.both .t (Take.none _))) ?_
 rintro _ _ ⟨rfl,v32,c32,ho32,rfl⟩;refine LW.splitA (LW.splitB ?_)
 refine LW.go uJ 4 rfl (LW.cT (bin_WBytes W B ba5 v32 _ c32 ho32 (by decide)) cl43 .n2 ?_)
 rintro _ _ ⟨c33,ho33,rfl⟩;refine LW.splitA (LW.splitB ?_);obtain⟨A33,cp33,rfl,hA33,hc33⟩:=OwnS.val ho33
 refine LW.cG (bin_NewReader W B c33 A33 cp33 _ (OwnS.src ho33) hA33 (by decide)) cl114 ?_
 rintro _ _ ⟨p34,v34,c34,rfl,hr34,rfl⟩;refine LW.splitA (LW.splitB ?_)
 refine LW.cT (vect_Get W B p34 v34 [1,-2] [] c34 (by simpa using hr34) (fun x hx=>(hin [1,-2] rfl x hx).i32) (by decide) (by decide)) cl250 .n2 ?_
 rintro _ _ ⟨c35,v35,ho35,hr35,rfl,_⟩;refine LW.splitA (LW.splitB ?_);rcases ho35 with ⟨_,z0,_,_⟩ | ⟨b35,k35,s35,rfl,_,_,_,rfl⟩;cases z0
 refine LW.go uJ 5 rfl (LW.bs [_] underlying25 info21 ?_)
 intro bs36
 refine LW.bs [_] underlying25 info21 ?_
 intro bs37
 refine LW.bs [_,_] underlying22 info25 ?_
 intro bs38
 refine LW.cT (quant_Make W B 1 0 ([cr bs38 25 ([(bs36,[0]),(bs37,[510])].map vsl)]++([cr bs36 21 ([0].map i32v)]++[cr bs37 21 ([510].map i32v)])) _ _ (vecsRow bs38 [(bs36,[0]),(bs37,[510])] (by simp) (by simp)) (by simp) (by decide) (by decide) (fun x hx=>by simp at hx;rcases hx with rfl | rfl<;>rfl)) cl232 .n3 ?_
 rintro _ _ ⟨b1,b2,rfl,rfl⟩;simp only [List.map_cons,List.map_nil];rw [hlo,hst];refine LW.splitA (LW.splitB ?_)
 refine LW.alloc zero256 rfl ?_
 intro ba7
 refine LW.sA ([.slice (some ⟨b1,0,none⟩) 1 1,.slice (some ⟨b2,0,none⟩) 1 1]) szt256 (two_one rfl rfl) ?_
 refine LW.go uJ 4 rfl (LW.lA ([.slice (some ⟨b1,0,none⟩) 1 1,.slice (some ⟨b2,0,none⟩) 1 1]) underlying256 szt256 ?_)
 refine LW.bs [_] underlying25 info21 ?_
 intro bs41
 refine LW.cT (quant_Code W B (some ⟨b1,0,none⟩) (some ⟨b2,0,none⟩) 1 1 [0] [2] [511] (vsl (bs41,[511])) ([cr b1 21 ([0].map i32v)]++([cr b2 21 ([2].map i32v)]++[cr bs41 21 ([511].map i32v)])) rfl rfl (vecRow (b1,[0]) (by simp)) (vecRow (b2,[2]) (by simp)) (vecRow (bs41,[511]) (by simp)) (hin [0] rfl) (fun x hx=>by simp at hx;subst hx;unfold StepB;omega) (hin [511] rfl) (by decide)) cl170 .n3 ?_
 rintro _ _ ⟨b42,rfl,rfl⟩;rw [hco];refine LW.splitA (LW.splitB (LW.splitC ?_))
 refine LW.go uJ 5 rfl (LW.bs [_] underlying25 info21 ?_)
 intro bs43
 refine LW.bs [_] underlying25 info21 ?_
 intro bs44
 refine LW.bs [_] underlying25 info21 ?_
 intro bs45
 refine LW.bs [_] underlying25 info21 ?_
 intro bs46
 refine LW.bs [_,_,_,_] underlying22 info25 ?_
 intro bs47
 refine LW.cT (means_Middles W B 2 3 ([cr bs47 25 ([(bs43,[0]),(bs44,[10]),(bs45,[2]),(bs46,[12])].map vsl)]++([cr bs43 21 ([0].map i32v)]++([cr bs44 21 ([10].map i32v)]++([cr bs45 21 ([2].map i32v)]++[cr bs46 21 ([12].map i32v)])))) _ _ (by decide) (by decide) (by decide) (vecsRow bs47 [(bs43,[0]),(bs44,[10]),(bs45,[2]),(bs46,[12])] (by simp) (by simp)) (by simp) (fun x hx=>by simp at hx;rcases hx with rfl | rfl | rfl | rfl<;>exact VOk.of rfl)) cl230 .n5 ?_
 rintro _ _ ⟨N,ms,c48,bag,hmr,hms,hmo,hN,rfl⟩;generalize ([cr bs47 25 ([(bs43,[0]),(bs44,[10]),(bs45,[2]),(bs46,[12])].map vsl)]++([cr bs43 21 ([0].map i32v)]++([cr bs44 21 ([10].map i32v)]++([cr bs45 21 ([2].map i32v)]++[cr bs46 21 ([12].map i32v)]))))=R48 at hmr |-;refine LW.splitA ?_
 rw [show ([(bs43,[0]),(bs44,[10]),(bs45,[2]),(bs46,[12])]:List (Nat×List Int)).map (fun y=>(vsl y,y.2))=[(vsl (bs43,[0]),[0]),(vsl (bs44,[10]),[10]),(vsl (bs45,[2]),[2]),(vsl (bs46,[12]),[12])] from rfl] at hms
 replace hms:ms.map (·.2)=[[1],[11]]:=hms.trans hmd
 obtain⟨⟨w1,x1⟩,ms,rfl⟩:∃ a b,ms=a::b:=by cases ms with | nil=>cases hms | cons a b=>exact⟨a,b,rfl⟩
 obtain⟨⟨w2,x2⟩,ms,rfl⟩:∃ a b,ms=a::b:=by cases ms with | nil=>cases hms | cons a b=>exact⟨a,b,rfl⟩
 obtain rfl:ms=[]:=by cases ms with | nil=>rfl | cons a b=>cases hms
 simp only [List.map_cons,List.map_nil,List.cons.injEq,and_true] at hms
 obtain⟨rfl,rfl⟩:=hms
 have hvm:=hmr.vecs
 obtain⟨hl48,ho48,hv48⟩:=hmr
 have hw1:=hv48 _ List.mem_cons_self
 have hw2:=hv48 _ (List.mem_cons_of_mem _ List.mem_cons_self)
 dsimp only at hw1 hw2
 obtain⟨A1,cp1,rfl,hcp1,_,hsr1,hA1⟩:=hw1
 obtain⟨A2,cp2,rfl,hcp2,_,hsr2,hA2⟩:=hw2
 obtain⟨a1,rfl⟩:∃ x,A1=some x:=by cases A1 with | none=>exact absurd (hA1 rfl) (by decide) | some x=>exact⟨x,rfl⟩
 obtain⟨a2,rfl⟩:∃ x,A2=some x:=by cases A2 with | none=>exact absurd (hA2 rfl) (by decide) | some x=>exact⟨x,rfl⟩
 obtain rfl:N=2:=hl48.symm
 rcases ho48 with ⟨_,z0,_,_⟩ | ⟨b48,k48,s48,rfl,_,_,_,rfl⟩
 . cases z0
 refine LW.go uJ 5 rfl (LW.eT (law_Begun4 W B h0 hg) cl377 ((Take.none _)) ?_)
 refine LW.go uJ 4 rfl (LW.eql true rfl rfl (rfl) rfl ?_)
 refine LW.go uJ 5 rfl (LW.cG (pool_Free W B p 7 _ c19 hp2) cl205 ?_)
 rintro _ c56 ⟨rfl,hp3⟩
 refine LW.go uJ 1 rfl (LW.eql true rfl rfl (rfl) rfl ?_)
 refine LW.go uJ 5 rfl (LW.cT (pool_Of W B p 7 _ c56 c19b 5 u 3 zs hp3 rfl hou.sl (by decide)) cl378 .n2 ?_)
 rintro _ _ ⟨c61,ho61,_,rfl⟩;obtain⟨A61,cp61,rfl,_,_⟩:=ho61.val;refine LW.splitA (LW.splitB ?_)
 refine LW.go uJ 3 rfl (LW.eql true rfl rfl (rfl) rfl ?_)
 refine LW.go uJ 7 rfl (LW.eql true rfl rfl (rfl) rfl ?_)
 refine LW.go uJ 5 rfl (LW.indexAddr (0) rfl rfl underlying37 ixs37 (by decide) (by decide) (rfl) rfl ?_)
 refine LW.go uJ 3 rfl (LW.load (v:=.int .i64 2) rfl .t (rfl) one3 rfl ?_)
 refine LW.go uJ 1 rfl (LW.eql true rfl rfl (rfl) rfl ?_)
 refine LW.go uJ 5 rfl (LW.indexAddr (2) rfl rfl underlying37 ixs37 (by decide) (by decide) (rfl) rfl ?_)
 refine LW.go uJ 3 rfl (LW.load (v:=.int .i64 3) rfl .t (rfl) one3 rfl ?_)
 refine LW.go uJ 1 rfl (LW.eql true rfl rfl (rfl) rfl ?_)
 refine LW.go uJ 7 rfl (LW.eql true rfl rfl (rfl) rfl ?_)
 refine LW.go uJ 5 rfl (LW.indexAddr (1) rfl rfl underlying25 ixs25 (by decide) (by decide) (rfl) rfl ?_)
 refine LW.go uJ 1 rfl (LW.load (v:=.int .i32 (-2)) rfl .t (rfl) one21 rfl ?_)
 refine LW.go uJ 1 rfl (LW.eql true rfl rfl (rfl) rfl ?_)
 refine LW.go uJ 5 rfl (LW.load (v:=.slice (some ⟨b2,0,none⟩) 1 1) rfl .t (rfl) one24 rfl ?_)
 refine LW.go uJ 3 rfl (LW.eql true rfl rfl (rfl) rfl ?_)
 refine LW.go uJ 5 rfl (LW.load (v:=.slice (some ⟨b2,0,none⟩) 1 1) rfl .t (rfl) one24 rfl ?_)
 refine LW.go uJ 1 rfl (LW.indexAddr (0) rfl rfl underlying24 ixs24 (by decide) (by decide) (rfl) rfl ?_)
 refine LW.go uJ 1 rfl (LW.load (v:=.int .i32 2) rfl .t (rfl) one21 rfl ?_)
 refine LW.go uJ 1 rfl (LW.eql true rfl rfl (rfl) rfl ?_)
 refine LW.go uJ 7 rfl (LW.eql true rfl rfl (rfl) rfl ?_)
 refine LW.go uJ 5 rfl (LW.indexAddr (0) rfl rfl underlying65 ixs65 (by decide) (by decide) (rfl) rfl ?_)
 refine LW.go uJ 1 rfl (LW.load (v:=.int .u8 255) rfl .t (rfl) one5 rfl ?_)
 refine LW.go uJ 1 rfl (LW.eql true rfl rfl (rfl) rfl ?_)
 refine LW.go uJ 7 rfl (LW.eql true rfl rfl (rfl) rfl ?_)
 refine LW.go uJ 5 rfl (LW.indexAddr (0) rfl rfl underlying22 ixs22 (by decide) (by decide) (rfl) rfl ?_)
 refine LW.go uJ 1 rfl (LW.load (v:=.slice (some a1) 1 cp1) rfl .t (rfl) one25 rfl ?_)
 refine LW.go uJ 3 rfl (LW.eql true rfl rfl (rfl) rfl ?_)
 refine LW.go uJ 5 rfl (LW.indexAddr (0) rfl rfl underlying22 ixs22 (by decide) (by decide) (rfl) rfl ?_)
 refine LW.go uJ 1 rfl (LW.load (v:=.slice (some a1) 1 cp1) rfl .t (rfl) one25 rfl ?_)
 refine LW.go uJ 1 rfl (LW.indexAt rfl rfl underlying25 ixs25 (by decide) (by decide) rfl ?_)
 refine LW.go uJ 1 rfl (LW.loadRd (v:=.int .i32 1) rfl (hsr1.rd .t) (rfl) one21 rfl ?_)
 refine LW.go uJ 1 rfl (LW.eql true rfl rfl (rfl) rfl ?_)
 refine LW.go uJ 5 rfl (LW.indexAddr (1) rfl rfl underlying22 ixs22 (by decide) (by decide) (rfl) rfl ?_)
 refine LW.go uJ 1 rfl (LW.load (v:=.slice (some a2) 1 cp2) rfl .t (rfl) one25 rfl ?_)
 refine LW.go uJ 3 rfl (LW.eql true rfl rfl (rfl) rfl ?_)
 refine LW.go uJ 5 rfl (LW.indexAddr (1) rfl rfl underlying22 ixs22 (by decide) (by decide) (rfl) rfl ?_)
 refine LW.go uJ 1 rfl (LW.load (v:=.slice (some a2) 1 cp2) rfl .t (rfl) one25 rfl ?_)
 refine LW.go uJ 1 rfl (LW.indexAt rfl rfl underlying25 ixs25 (by decide) (by decide) rfl ?_)
 refine LW.go uJ 1 rfl (LW.loadRd (v:=.int .i32 11) rfl (hsr2.rd .t) (rfl) one21 rfl ?_)
 refine LW.go uJ 1 rfl (LW.eql true rfl rfl (rfl) rfl ?_)
 refine LW.go uJ 5 rfl (LW.bs [_] underlying25 info21 ?_)
 intro bs156
 refine LW.go uJ 1 rfl (LW.eT (means_Nearest W B _ _ (vsl (bs156,[9])) _ [9] (hvm.more fun x hx=>List.mem_append_left [cr bs156 21 ([9].map i32v)] hx) (vecRow (bs156,[9]) (by simp)) (by simp) hmo (VOk.of rfl)) cl166 (Take.both .n2 .t) ?_)
 refine LW.splitA (LW.splitA ?_)
 refine LW.go uJ 1 rfl (LW.eql true rfl rfl (beq_iff_eq.2 hnr) rfl ?_)
 refine LW.go uJ 3 rfl (LW.bs [_,_] underlying25 info21 ?_)
 intro bs161
 refine LW.go uJ 1 rfl (LW.bs [_,_] underlying25 info21 ?_)
 intro bs162
 refine LW.go uJ 1 rfl (LW.eT (metric_Score W B 1 ([cr bs161 21 ([1,2].map i32v)]++[cr bs162 21 ([4,6].map i32v)]) (vsl (bs161,[1,2])) (vsl (bs162,[4,6])) [1,2] [4,6] (vecRow (bs161,[1,2]) (by simp)) (vecRow (bs162,[4,6]) (by simp)) (by decide) (hin [1,2] rfl) (hin [4,6] rfl)) cl140 .n2 ?_)
 refine LW.go uJ 1 rfl (LW.eql true rfl rfl (rfl) rfl ?_)
 refine LW.go uJ 3 rfl (LW.bs [_,_] underlying25 info21 ?_)
 intro bs167
 refine LW.go uJ 1 rfl (LW.bs [_,_] underlying25 info21 ?_)
 intro bs168
 refine LW.go uJ 1 rfl (LW.eT (metric_Score W B 2 ([cr bs167 21 ([1,2].map i32v)]++[cr bs168 21 ([4,6].map i32v)]) (vsl (bs167,[1,2])) (vsl (bs168,[4,6])) [1,2] [4,6] (vecRow (bs167,[1,2]) (by simp)) (vecRow (bs168,[4,6]) (by simp)) (by decide) (hin [1,2] rfl) (hin [4,6] rfl)) cl140 .n2 ?_)
 refine LW.go uJ 1 rfl (LW.eql true rfl rfl (rfl) rfl ?_)
 refine LW.go uJ 5 rfl ?_
 refine NW.r1 ⟨_,⟨rfl,rfl⟩,?_⟩
 exact Sub.nil _
end
open Go.RowKit
def flK:Nat->List (Int×List Int)
 | 0=>[]
 | k+1=>aset (flK k) ((k:Int)+1) [2*((k:Int)+1)]
def ivK:Nat->List (Int×(List Int×Int))
 | 0=>[]
 | k+1=>ivfPut (midsP 4 3 [[0],[9]]) (ivK k) ((k:Int)+1) [2*((k:Int)+1)]
def grK:Nat->GraP
 | 0=>[]
 | k+1=>graPut 1 (grK k) ((k:Int)+1) [2*((k:Int)+1)] (k+1)
def coK:Nat->List (Int×(List Int×List Int))
 | 0=>[]
 | k+1=>aset (coK k) ((k:Int)+1) ([2*((k:Int)+1)],codeF (lows 1 [[0],[9]]) (steps 1 [[0],[9]]) [2*((k:Int)+1)])
theorem grK_new:∀ k,k<5->(aget (grK k) ((k:Int)+1)).isNone=true:=by decide +kernel
theorem flK_S:flatS 1 (flK 5) [5] 2=[(2,1),(3,1)]:=by decide +kernel
theorem ivK_S:(ivfS 1 (midsP 4 3 [[0],[9]]) (ivK 5) [5] 2).length=2:=by decide +kernel
theorem grK_S:(graS 1 (grK 5) [5] 2).map (·.1)=[2,3]:=by decide +kernel
theorem coK_S:(codS 1 (lows 1 [[0],[9]]) (steps 1 [[0],[9]]) (coK 5) [5] 2).map (·.1)=[2,3]:=by decide +kernel
theorem flX_S:flatS 1 [(3,[7])] [6] 1=[(3,1)]:=by decide +kernel
theorem two_of {l:List (Int×Int)}(h:l.map (·.1)=[2,3]):∃ a b,l=[(2,a),(3,b)]:=by
 match l,h with
 | [(_,a),(_,b)],h=>simp at h;obtain⟨rfl,rfl⟩:=h;exact⟨a,b,rfl⟩
theorem hits_row {l:List (Int×Int)}{s:List Value}{i:Nat}{x:Int×Int}(h:l[i]?=some x):∀ j v,(hitC x)[j]?=some v->(hitsC l++s)[i*2+j]?=some v:=fun j v hj=>by
 have:=hitsC_at h j v hj
 rw [Int.toNat_natCast] at this
 rw [List.getElem?_append_left (List.getElem?_eq_some_iff.1 this).1]
 exact this
open Go.RowKit
theorem hit_eql (x y:Int×Int)(w:World):(binOp .eql 72 (hitV x) (hitV y)).run prog w=.ok (.bool (x.1==y.1 && x.2==y.2)) w:=by
 have hS:prog.underlying 72=some (.struct (prog.fieldsOf 72)):=by kernel_rfl
 have hp:prog.stoodInHeld 72=false:=by kernel_rfl
 have hi1:(Op.equalIn 9999 3 (.int .i64 x.1) (.int .i64 y.1)).run prog w=.ok (x.1==y.1) w:=run_equalIn_int w 9998 _ .i64 .i64 _ _ underlying3
 have hi2:(Op.equalIn 9999 2 (.int .i64 x.2) (.int .i64 y.2)).run prog w=.ok (x.2==y.2) w:=run_equalIn_int w 9998 _ .i64 .i64 _ _ underlying2
 have hpt:∀ (t:Nat) (xs:Array Value) (o:Nat) (v:Value),prog.underlying t=some (.int .i64)->xs[o]?=some v->(part t xs o).run prog w=.ok v w:=fun t xs o v hu hx=>by simp [part,isAgg,run_underlying hu,hx]
 unfold hitV
 rw [run_eql_struct,show (10000:Nat)=9999+1 from rfl,run_equalIn_agg w 9999 _ _ _ hS hp]
 simp only [Program.fieldsOf,underlying72,Op.eqFields]
 have p1:=hpt 3 (hitC x).toArray 0 (.int .i64 x.1) underlying3 rfl
 have p2:=hpt 3 (hitC y).toArray 0 (.int .i64 y.1) underlying3 rfl
 have p3:=hpt 2 (hitC x).toArray 1 (.int .i64 x.2) underlying2 rfl
 have p4:=hpt 2 (hitC y).toArray 1 (.int .i64 y.2) underlying2 rfl
 have hif:∀ (b:Bool) (s:String),(s ≠ "_")->(if s ≠ "_" then true else false)=true:=fun b s h=>by simp [h]
 have n1:("Id" : String) ≠ "_" := by decide
 have n2:("Score" : String) ≠ "_" := by decide
 rw [if_pos n1,if_pos n2]
 simp only [Sem.run_bind,p1,p2,p3,p4,Result.andThen_ok,hi1,hi2,Sem.run_ite,Sem.run_pure]
 by_cases h1:x.1=y.1<;>by_cases h2:x.2=y.2<;>simp [h1,h2]
section
variable {n:Nat}{c:Ctx}{Q:Exit->Act->World->Prop}{e:Env}{h:Heap}{ops:Array Oper}{rest:List Oper}{d ty:Nat}{pos:String}{af:Array Edge}
theorem hit_guard (p q:Operand)(x y:Int×Int)(w:World):(eqGuard .eql 72 p q (hitV x) (hitV y)).run prog w=.ok () w:=
 run_eqGuard_agg w .eql _ p q _ _ (by kernel_rfl)
theorem LW.hitEql {yt:Nat}{p q:Operand}{x y:Int×Int}(r:Bool)(hx:e.ev p=some (hitV x))(hy:e.ev q=some (hitV y))(hr:(x.1==y.1 && x.2==y.2)=r)(hd:Nat.blt d n=true)(k:LW prog n c ops Q rest ((d,.bool r)::e) h) :
  LW prog n c ops Q (⟨some d,.binOp .eql 72 p q yt,ty,pos,af,none⟩::rest) e h:=
 LW.val _ hd (fun a w hf _=>by
  subst hr
  simp only [execOp,hf.eval hx,hf.eval hy,Sem.run_bind,hit_guard,Result.andThen_ok,hit_eql,Sem.run_pure]) k
end
end Go.Proofs.YtnlpccoigflheaaGreatDoor
