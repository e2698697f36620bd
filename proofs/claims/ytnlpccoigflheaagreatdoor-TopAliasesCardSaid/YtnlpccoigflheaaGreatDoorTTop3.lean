/- TJud4 TJud5 TJud6 TBeg23a TBeg23 TTop1 TTop2 TTop3 -/
import Derived.Test.YtnlpccoigflheaaGreatDoorTJud3
import Derived.Laws.IdiomStrings
import Derived.Test.YtnlpccoigflheaaGreatDoorFac
namespace Go.Proofs.YtnlpccoigflheaaGreatDoor
open Go.RowKit
open Go.Proofs.Tryz
def TuR:Tbl:=⟨[(32,8,8),(36,2,2),(36,3,3),(41,0,0),(41,1,5),(114,1,1)],[],[25,37,65]⟩
theorem uR:TuR.Ok Tryz.prog:=.of (⟨⟨_,Tryz.underlying25⟩,⟨_,Tryz.underlying37⟩,⟨_,Tryz.underlying65⟩,trivial⟩)
section
variable (W:World)(B:Nat)
theorem bixf (rows:List Row)(v:Value)(xs:List UInt8)(p:UInt8->Bool)(f:Nat)(us:List Value)(hc:Callee prog f)(hs:SlAt W B rows v xs.length (xs.map u8v) 1)(hm:xs.length<=1000000)
   (hf:∀ x∈xs,Spec prog W B f ([u8v x]++us) [] (fun r post=>r=.bool (p x)/\post=[])) :
   Spec prog W B 347 [v,.func (.func f) #[] us.toArray] rows (fun r post=>r=.int .i64 (idxF p xs 0)/\post=rows):=by
 obtain⟨A,cp,rfl,hcp,hl,hsrc,hA⟩:=hs
 refine Spec.eG [rows] func347 ntmps347 fun w0=>?_
 refine CW.go uR 14 rfl ?_
 refine CW.loopG (fun i:Nat=>[(8,iN i),(7,iN xs.length),(0,.slice A xs.length cp),(1,.func (.func f) #[] us.toArray)]) (fun _=>[rows]) (fun i=>i<=xs.length/\idxF p xs 0=idxF p (xs.drop i) i) (fun i=>xs.length-i) 0 (by exact⟨Nat.zero_le _,rfl⟩) rfl (by repeat' constructor) ?_
 rintro i ⟨hi,hx⟩
 refine CW.go uR 2 rfl (LW.lss (decide ((i:Int)<(xs.length:Int))) rfl rfl (rfl) rfl ?_)
 refine LW.go uR 3 rfl ?_
 refine CW.cond rfl (fun hc9=>?_) (fun hc9=>?_)
 . have hin:i<xs.length:=oT hc9
   obtain⟨a,rfl⟩:∃ x,A=some x:=smA hA
   obtain⟨x,hxi,hxd⟩:=drop_at hin
   rw [hxd,idxF] at hx
   have hg:(xs.map u8v)[((i:Nat):Int).toNat*1]?=some (u8v x):=by rw [Int.toNat_natCast,Nat.mul_one,List.getElem?_map,hxi];rfl
   refine CW.go uR 15 rfl (LW.indexAt rfl rfl underlying65 ixs65 (by omega) (by omega) rfl ?_)
   refine LW.loadRd (v:=u8v x) rfl (hsrc.rd .t) (hg) one5 rfl ?_
   refine LW.callFn (args:=[u8v x]) (us:=us) rfl (hf x (List.mem_of_getElem? hxi)) hc ⟨rfl,trivial⟩ (Take.none _) rfl ?_
   rintro _ _ ⟨rfl,rfl⟩
   refine LW.go uR 2 rfl ?_
   refine CW.cond rfl (fun hc16=>?_) (fun hc16=>?_)
   . rw [if_pos hc16] at hx
     refine CW.go uR 9 rfl (NW.then_ret ?_)
     refine NW.go uR 2 rfl ?_
     refine NW.ret1 rfl rfl ⟨_,⟨by rw [hx],rfl⟩,?_⟩
     exact Sub.one .t
   . rw [if_neg (by rw [hc16];decide)] at hx
     refine CW.go uR 4 rfl (LW.ad ((i+1:Int)) ?_)
     exact LW.go uR 2 rfl (NW.mG (i+1) (by exact⟨⟨hin,hx⟩,by omega⟩))
 . have hin:i=xs.length:=oF hc9
   rw [hin,List.drop_length] at hx
   refine CW.go uR 2 rfl (NW.then_exit (NW.go uR 8 rfl ?_))
   refine NW.ret1 rfl rfl ⟨_,⟨by rw [hx];rfl,rfl⟩,?_⟩
   exact Sub.one .t
theorem bctf (rows:List Row)(v:Value)(xs:List UInt8)(p:UInt8->Bool)(f:Nat)(us:List Value)(hc:Callee prog f)(hs:SlAt W B rows v xs.length (xs.map u8v) 1)(hm:xs.length<=1000000)
  (hf:∀ x∈xs,Spec prog W B f ([u8v x]++us) [] (fun r post=>r=.bool (p x)/\post=[])) :
  Spec prog W B 302 [v,.func (.func f) #[] us.toArray] rows (fun r post=>r=.bool (xs.any p)/\post=rows):=by
 refine Spec.eG [rows] func302 ntmps302 fun w0=>?_
 refine CW.go uR 9 rfl (LW.eG (bixf W B rows v xs p f us hc hs hm hf) cl347 ?_)
 refine LW.geq (xs.any p) rfl rfl (idxF_any p xs 0) rfl ?_
 refine LW.go uR 4 rfl ?_
 refine NW.r1 ⟨_,⟨rfl,rfl⟩,?_⟩
 exact Sub.one .t
end
open Go.RowKit
section
variable {P:Program}{n:Nat}{c:Ctx}{Q:Exit->Act->World->Prop}{e:Env}{h:Heap}{ops:Array Oper}{rest:List Oper}{d ty:Nat}{pos:String}{af:Array Edge}
theorem LW.strBytes {src dst el:Nat}{x:Operand}{s:Nm}(hx:e.ev x=some (strV s))(hs:P.underlying src=some .string)(hd':P.underlying dst=some (.slice el))(he:P.underlying el=some (.int .u8))(hd:Nat.blt d n=true)
  (k:∀ v ch,(∀ W B,SlAt W B ch v s.length (s.map u8v) 1)->LW P n c ops Q rest ((d,v)::e) (ch::h)) :
  LW P n c ops Q (⟨some d,.convert src dst x,ty,pos,af,none⟩::rest) e h:=
 LW.act hd fun a w hf st=>by
  have hr:=run_bytes_of_string (P:=P) w src dst el ⟨s.toArray⟩ hs hd' he
  have hsz:(⟨s.toArray⟩:ByteArray).size=s.length:=by show s.toArray.size=_;simp
  rw [hsz] at hr
  generalize hcp:grownCap w s.length 0 el=cp at hr
  refine⟨_,_,_,by simp only [execOp,hf.eval hx,strV,Sem.run_bind,hr,Result.andThen_ok];rfl,st.drew.alloc _,k _ _ fun W B=>?_⟩
  refine⟨some ⟨_,0,none⟩,cp,rfl,?_,by simp,.inr ⟨_,rfl,.inr ⟨_,0,(el,_,_),(bytesRow ⟨s.toArray⟩ cp).toList,rfl,List.mem_singleton.2 rfl,fun j v hj=>?_⟩⟩,fun h=>by cases h⟩
  . rw [<- hcp];exact grownCap_ge w s.length 0 el
  . have e1:(bytesRow ⟨s.toArray⟩ cp).toList=s.map u8v++List.replicate (cp-s.length) (.int .u8 0):=by
     unfold bytesRow
     rw [hsz]
     simp [u8v]
    rw [e1,Nat.zero_add,List.getElem?_append_left (List.getElem?_eq_some_iff.1 hj).1]
    exact hj
end
section
variable (W:World)(B:Nat)
theorem jud_name (s:Nm)(h:nameOk s=true):Spec prog W B 256 [strV s] [] (fun r post=>r=.bool true/\post=[]):=by
 unfold nameOk at h
 rw [Bool.and_eq_true,Bool.and_eq_true] at h
 obtain⟨⟨h1,h2⟩,h3⟩:=h
 have h1:=of_decide_eq_true h1
 have h2:=of_decide_eq_true h2
 have hany:s.any (fun b=>!letter b)=false:=by
  rw [List.any_eq_false]
  intro b hb
  have:=List.all_eq_true.1 h3 b hb
  simp [this]
 refine Spec.eG [] func256 ntmps256 fun w0=>?_
 refine CW.go uR 8 rfl (LW.lenString rfl underlying9 rfl ?_)
 refine LW.geq true rfl rfl (decide_eq_true (by show ((s.length:Nat):Int)>=1;omega)) rfl ?_
 refine LW.go uR 4 rfl (LW.lenString rfl underlying9 rfl ?_)
 refine LW.go uR 1 rfl (LW.leq true rfl rfl (decide_eq_true (by show ((s.length:Nat):Int)<=12;omega)) rfl ?_)
 refine LW.go uR 5 rfl (LW.strBytes rfl underlying9 underlying65 underlying5 rfl ?_)
 intro v13 c13 hs13
 refine LW.go uR 1 rfl (LW.eG (bctf W B c13 v13 s (fun b=>!letter b) 303 [] cl303 (hs13 W B) (by omega) (fun b _=>jud_name1 W B b)) cl302 ?_)
 rw [hany]
 refine LW.go uR 7 rfl ?_
 refine NW.r1 ⟨_,⟨rfl,rfl⟩,?_⟩
 exact Sub.nil _
end
open Go.RowKit
section
variable (W:World)(B:Nat)
theorem core_Names1 (p:Nat)(c:CorP)(rows im:List Row)(s:Nm)(x:ColP)(hc:CorR W B im p c rows)(hcs:c.cols=[(s,x)])(hs:s.length<=1000) :
  Spec prog W B 131 [ptr p] rows (fun r post=>∃ ch,OwnS 9 1 r 1 [strV s] ch/\post=ch++rows):=by
 obtain⟨mv,chm,av,cha,es,cs,h1,h2,h3,rfl,h5⟩:=hc
 have hk:=h2.keys.1
 rw [hcs] at hk
 have hel:(esC es).length=1:=by have:=congrArg List.length hk;simpa using this
 refine Spec.eG [[cr p 114 (corC mv av c)],chm,cha,cs.flatten] func131 ntmps131 fun w0=>?_
 refine CW.go uR 9 rfl (LW.pn underlying60 ?_)
 refine LW.go uR 10 rfl (LW.ld one111 ?_)
 refine LW.cT (keys_207 W B mv (map_cells h1)) cl207 ((Take.none _)) ?_
 rintro _ _ ⟨bx,rfl,rfl⟩
 refine LW.cT (sorted_keysS W B layKeysCol (enters_go cl265) bx _ mv (esC es) chm h1 (fun y hy=>by have h9:y.1∈(esC es).map (·.1):=List.mem_map.2 ⟨y,hy,rfl⟩;rw [hk] at h9;simp at h9;rw [h9];omega) (by omega)) cl206 .n2 ?_
 rintro r1 _ ⟨c1,ho1,rfl⟩;rw [hk,hel] at ho1;refine LW.splitA (LW.splitB ?_)
 refine LW.go uR 4 rfl ?_
 refine NW.ret1 rfl rfl ⟨_,⟨c1,by simpa [srtS] using ho1,rfl⟩,?_⟩
 exact .s5
end
open Go.RowKit
section
variable (W:World)(B:Nat)
theorem t_Code_nil:Spec prog W B 10 [.nilIface] [] (fun r post=>r=.int .i64 0/\post=[]):=by
 refine Spec.eG [] func10 ntmps10 fun w0=>?_
 refine CW.go uR 9 rfl (LW.ifaceNil _ rfl underlying43 (.inl ⟨rfl,rfl⟩) rfl ?_)
 refine LW.go uR 10 rfl ?_
 refine NW.r1 ⟨_,⟨rfl,rfl⟩,?_⟩
 exact Sub.nil _
theorem law_Begun18 (h0:0<B)(hg:W.cell? ⟨0,0,none⟩=some (rty 43))(ht:Tab W B):Spec prog W B 64 [] [] (fun v post=>v=.bool true/\post=[]):=by
 refine Spec.eG [] func64 ntmps64 fun w0=>?_
 refine CW.go uR 7 rfl (LW.eT (law_begun18 W B h0 hg ht) cl129 ((Take.none _)) ?_)
 refine LW.go uR 4 rfl ?_
 refine NW.r1 ⟨_,⟨rfl,rfl⟩,?_⟩
 exact Sub.nil _
end
def oA:OpP:=op1 [97] 1 1 1
def oB:OpP:=op3 [97] 3 [5] [120] 0
def oC:OpP:=op13 [97] [6] 2
def oD:OpP:=op12 [97] 3
def cA (pl:Nat):CorP:=createQ (seqP CorP.new) oA pl
def cB (pl:Nat):CorP:=putQ (seqP (cA pl)) oB (colN oA pl)
theorem okA:OpOk oA:=⟨by decide,by decide,by decide,by decide,by decide,by decide⟩
theorem okB:OpOk oB:=⟨by decide,by decide,by decide,by decide,by decide,by decide⟩
theorem okD:OpOk oD:=⟨by decide,by decide,by decide,by decide,by decide,by decide⟩
theorem canA:createE CorP.new oA=0:=by decide +kernel
theorem canB (pl:Nat):putE (cA pl) oB=0:=by
 unfold putE
 have h1:aget (cA pl).cols oB.col=some (colN oA pl):=by simp [cA,createQ,seqP,CorP.new,oA,oB,op1,op3,opZ,aget]
 have h2:moreP (cA pl) oB.col (colN oA pl)=1:=by
  have e0:stoLen []=0:=by decide +kernel
  unfold moreP movesP
  rw [show (colN oA pl).s=[] from rfl,e0]
  rfl
 have h3:freeP (cA pl)=64:=by
  have e:(cA pl).cols=[([97],colN oA pl)]:=by simp [cA,createQ,seqP,CorP.new,oA,op1,opZ]
  have e0:stoLen []=0:=by decide +kernel
  have e3:(cA pl).mv=none:=rfl
  unfold freeP usedP
  rw [e]
  simp only [List.map_cons,List.map_nil,List.sum_cons,List.sum_nil,colBlocks,movesP,e3,show (colN oA pl).s=[] from rfl,e0]
  rfl
 have h4:thrP (cA pl) oB.col=false:=rfl
 rw [h1]
 simp only [h2,h3,h4]
 rfl
theorem colsB (pl:Nat):(cB pl).cols=[([97],colPut (colN oA pl) oB 2)]:=by simp [cB,putQ,cA,createQ,seqP,CorP.new,oA,oB,op1,op3,opZ,aset]
theorem getB (pl:Nat):aget (cB pl).cols [97]=some (colPut (colN oA pl) oB 2):=by rw [colsB];rfl
theorem idsB0 (pl:Nat):idsOf (colPut (colN oA pl) oB 2).s=[3]:=by
 have:idsOf [(3,⟨3,[5],[120],2,false⟩)]=[3]:=by decide +kernel
 exact this
theorem idsB (pl:Nat):∀ id∈idsOf (colPut (colN oA pl) oB 2).s,∃ it,stoGet (colPut (colN oA pl) oB 2).s id=some it/\it.id=id:=by
 rw [idsB0]
 intro id h
 simp at h
 subst h
 exact⟨⟨3,[5],[120],2,false⟩,rfl,rfl⟩
theorem findB (pl:Nat):findP (cB pl) [97]=some (colPut (colN oA pl) oB 2):=by
 have e:(cB pl).cols=[([97],colPut (colN oA pl) oB 2)]:=by simp [cB,putQ,cA,createQ,seqP,CorP.new,oA,oB,op1,op3,opZ,aset]
 unfold findP
 rw [e]
 rfl
theorem hitsB (pl:Nat):idxS (colPut (colN oA pl) oB 2).x [6] 2=[(3,1)]:=by
 have:flatS 1 [(3,[5])] [6] 2=[(3,1)]:=by decide +kernel
 exact this
theorem useB (pl:Nat):usedP (cB pl)<=64:=by
 have e:(cB pl).cols=[([97],colPut (colN oA pl) oB 2)]:=by simp [cB,putQ,cA,createQ,seqP,CorP.new,oA,oB,op1,op3,opZ,aset]
 have e1:stoLen (colPut (colN oA pl) oB 2).s<=1:=Nat.le_trans (stoLen_le _) (Nat.le_of_eq rfl)
 have e2:(colPut (colN oA pl) oB 2).x.x.kind=1:=rfl
 have e3:(cB pl).mv=none:=rfl
 unfold usedP
 rw [e]
 simp only [List.map_cons,List.map_nil,List.sum_cons,List.sum_nil,colBlocks,movesP,e2,e3,blocksP]
 simp
 omega
open Go.RowKit
section
variable (W:World)(B:Nat)
set_option maxHeartbeats 4000000 in
set_option maxRecDepth 4000 in
theorem law_begun23 (h0:0<B)(hg:W.cell? ⟨0,0,none⟩=some (rty 43))(ht:Tab W B):Spec prog W B 25 [] [] (fun v post=>v=.bool true/\post=[]):=by
 have hr0:=Rest.zero (n:=256) (by decide) (by decide)
 have hz0:=zero_slot 256 (by decide)
 have hvo5:VOk [5]:=VOk.of rfl
 refine Spec.eG [] func25 ntmps25 fun w0=>?_
 refine CW.go uR 7 rfl (LW.cT (core_New W B) cl27 ((Take.none _)) ?_)
 rintro _ rc ⟨pc,rfl,hc⟩
 refine LW.cT (dev_New W B 256 (by decide) (by decide)) cl12 ((Take.none _)) ?_
 rintro _ _ ⟨pd,bn,bw,bl,rfl,rfl⟩
 refine LW.cT (jud_New W B) cl59 ((Take.none _)) ?_
 rintro _ rj ⟨pj,rfl,hj⟩
 refine LW.go uR 9 rfl (LW.pn underlying60 ?_)
 refine LW.go uR 4 rfl (LW.pn underlying45 ?_)
 refine LW.go uR 5 rfl (LW.pn underlying135 ?_)
 refine LW.go uR 8 rfl (LW.bd [_,_,_,_,_] ((opC nilV oA).toArray) ?_)
 refine LW.alloc zero32 rfl ?_
 intro ba4
 refine LW.sA (opC nilV oA) szt32 (opC_one rfl oA) ?_
 refine LW.go uR 4 rfl (LW.bs [_] underlying25 info21 ?_)
 intro bs43
 refine LW.bd [_,_,_,_,_] ((opC (vsl (bs43,[5])) oB).toArray) ?_
 refine LW.alloc zero32 rfl ?_
 intro ba5
 refine LW.sA (opC (vsl (bs43,[5])) oB) szt32 (opC_one rfl oB) ?_
 refine LW.go uR 5 rfl (LW.lA (opC nilV oA) underlying32 szt32 ?_)
 refine LW.cT (core_Do1 W B pc CorP.new rc [] nilV oA (hc _) VecAt.none rfl (by decide) canA rfl (by decide)) cl23 (Take.both .t (Take.none _)) ?_
 rintro _ _ ⟨rfl,pl,rc1,ch1,hc1,rfl⟩;rw [List.append_nil] at hc1 |-;refine LW.splitA ?_
 refine LW.go uR 3 rfl (LW.alloc zero41 rfl ?_)
 intro ba6
 refine LW.sA (rep0) szt41 (rep0_one) ?_
 refine LW.go uR 6 rfl (LW.lA (opC (vsl (bs43,[5])) oB) underlying32 szt32 ?_)
 refine LW.cT (core_Do3 W B ht pc (cA pl) rc1 ([cr bs43 21 ([5].map i32v)]++ch1) (vsl (bs43,[5])) oB (colN oA pl) (hc1.more fun y hy=>List.mem_append_right _ hy) (vecRow (bs43,[5]) (by simp)) rfl (canB pl) (by simp [cA,createQ,seqP,CorP.new,oA,oB,op1,op3,opZ,aget]) (by show (0:Int)+1<1000000000;decide) (by decide) (by decide) (useB pl) (by decide) (by decide)) cl23 .n3 ?_
 rintro _ _ ⟨rfl,rc2,ch2,hc2,rfl⟩;refine LW.splitA ?_
 generalize hbag:ch2++([cr bs43 21 ([5].map i32v)]++ch1)=bag at hc2 |-
 have hv5:VecAt W B bag (vsl (bs43,[5])) [5]:=vecRow (bs43,[5]) (by rw [<- hbag];simp)
 refine LW.go uR 3 rfl (LW.alloc zero41 rfl ?_)
 intro ba8
 refine LW.sA (rep0) szt41 (rep0_one) ?_
 refine LW.go uR 6 rfl (LW.bs [_] underlying25 info21 ?_)
 intro bs59
 refine LW.bd [_,_,_,_] ((opC (vsl (bs59,[6])) oC).toArray) ?_
 refine LW.cT (core_Ask13 W B pc (cB pl) rc2 ([cr bs59 21 ([6].map i32v)]++bag) (vsl (bs59,[6])) oC (colPut (colN oA pl) oB 2) 2 (hc2.more fun y hy=>List.mem_append_right _ hy) (vecRow (bs59,[6]) (by simp)) rfl (findB pl) rfl rfl (by decide)) cl17 .n3 ?_
 rintro _ _ ⟨u61,c61,rfl,ho61,rfl⟩;rw [show idxS (colPut (colN oA pl) oB 2).x oC.vec 2=_ from hitsB pl] at ho61;rcases ho61 with ⟨_,z0,_,_⟩ | ⟨b61,k61,s61,rfl,_,_,_,rfl⟩;cases z0;refine LW.splitA (LW.splitB (LW.splitC ?_))
 refine LW.go uR 3 rfl (LW.alloc zero41 rfl ?_)
 intro ba10
 refine LW.sA (repC nilV ItemP.none (.slice (sA b61) 1 k61) 0) szt41 (repC_one rfl _ rfl _) ?_
 refine LW.go uR 5 rfl (LW.lA (opC (vsl (bs43,[5])) oB) underlying32 szt32 ?_)
 refine LW.cG (req_Put3 W B [97] 3 [5] [120] 0 bag (vsl (bs43,[5])) hv5 okB hvo5 (by decide) (by decide)) cl19 ?_
 rintro _ _ ⟨u66,c66,rfl,ho66,rfl⟩;obtain⟨A66,cp66,rfl,hA66,hcp66⟩:=OwnS.val ho66;refine LW.splitA ?_
 refine LW.go uR 10 rfl (LW.cG (req_Get3 W B c66 A66 cp66 [97] 3 [5] [120] 0 okB hvo5 (by decide) (OwnS.src ho66) hA66) cl60 ?_)
 rintro _ _ ⟨u71,c71,rfl,hu71,rfl⟩;refine LW.splitA ?_
 refine LW.go uR 3 rfl (LW.alloc zero32 rfl ?_)
 intro ba14
 refine LW.sA (opC u71 oB) szt32 (opC_one hu71.one oB) ?_
 refine LW.go uR 6 rfl (LW.cG (vdb_Make W B pd bn bw bl 256 (DevS.zero 256) hr0.ok hr0.up (hold_slot hr0.flat (by decide) hz0) (by decide)) cl13 ?_)
 rintro _ rv ⟨pv,rfl,hvd⟩
 refine LW.go uR 11 rfl (LW.pn underlying46 ?_)
 refine LW.go uR 8 rfl (LW.lA (opC nilV oA) underlying32 szt32 ?_)
 refine LW.cT (vdb_Do W B pv pd bn bw bl 256 ⟨1,0,0,[]⟩ CorP.new (fun c'=>∃ pl,c'=cA pl) rv [] nilV oA (encO oA) (hvd _) VecAt.none (by decide) (req_May W B [] nilV oA VecAt.none okA (req_bare1 W B [97] 1 1 1)) (fun pc rc h=>core_Can W B pc rc [] nilV oA 0 VecAt.none (core_can1 W B pc CorP.new rc [] nilV oA h VecAt.none rfl (by decide) canA)) ((req_Put1 W B [97] 1 1 1 okA).mono fun r post h=>by obtain⟨u,ch,a1,a2,a3⟩:=h;exact⟨u,ch,a1,a2,by rw [a3,List.append_nil]⟩) (fun pc rc h=>(core_Do1 W B pc CorP.new rc [] nilV oA h VecAt.none rfl (by decide) canA rfl (by decide)).mono fun r post hq=>by obtain⟨a1,pl,rc',ch,a2,a3⟩:=hq;exact⟨a1,_,rc',ch,⟨pl,rfl⟩,a2,a3⟩) ⟨by decide +kernel,by decide +kernel⟩ (by decide +kernel) (by decide) (by decide)) cl8 (Take.both .t (Take.none _)) ?_
 rintro _ _ ⟨rfl,c84,rv1,ch84,⟨pl84,rfl⟩,hvd1,rfl⟩;rw [List.append_nil] at hvd1 |-;refine LW.splitA ?_
 refine LW.go uR 3 rfl (LW.alloc zero41 rfl ?_)
 intro ba18
 refine LW.sA (rep0) szt41 (rep0_one) ?_
 refine LW.go uR 6 rfl (LW.lA (opC (vsl (bs43,[5])) oB) underlying32 szt32 ?_)
 refine LW.cT (vdb_Do W B pv pd bn bw bl 256 _ (cA pl84) (fun c'=>c'=cB pl84) rv1 (bag++ch84) (vsl (bs43,[5])) oB (encO oB) (hvd1.more fun y hy=>List.mem_append_right _ hy) (hv5.more fun y hy=>List.mem_append_left _ hy) (by decide) (req_May W B _ _ oB (hv5.more fun y hy=>List.mem_append_left _ hy) okB (req_bare3 W B [97] 3 [5] [120] 0 _ _)) (fun pc rc h=>core_Can W B pc rc _ _ oB 0 (hv5.more fun y hy=>List.mem_append_left _ hy) (core_can3 W B pc (cA pl84) rc _ _ oB h (hv5.more fun y hy=>List.mem_append_left _ hy) rfl (by decide) (by decide) (canB pl84))) (req_Put3 W B [97] 3 [5] [120] 0 _ _ (hv5.more fun y hy=>List.mem_append_left _ hy) okB hvo5 (by decide) (by decide)) (fun pc rc h=>(core_Do3 W B ht pc (cA pl84) rc _ _ oB (colN oA pl84) h (hv5.more fun y hy=>List.mem_append_left _ hy) rfl (canB pl84) (by simp [cA,createQ,seqP,CorP.new,oA,oB,op1,op3,opZ,aget]) (by show (0:Int)+1<1000000000;decide) (by decide) (by decide) (useB pl84) (by decide) (by decide)).mono fun r post hq=>by obtain⟨a1,rc',ch,a2,a3⟩:=hq;exact⟨a1,_,rc',ch,rfl,a2,a3⟩) ⟨by decide +kernel,by decide +kernel⟩ (by decide +kernel) (by decide) (by decide)) cl8 .n3 ?_
 rintro _ _ ⟨rfl,c90,rv2,ch90,rfl,hvd2,rfl⟩;refine LW.splitA (LW.splitB (LW.splitC ?_))
 refine LW.go uR 3 rfl (LW.alloc zero41 rfl ?_)
 intro ba20
 refine LW.sA (rep0) szt41 (rep0_one) ?_
 refine LW.go uR 6 rfl ?_
 obtain⟨l90,q90,d90,pc90,rc90,hrd,hfi,hla,hcr90,rfl⟩:=hvd2
 refine LW.front (p:=[cr pv 62 (dbC pd l90 pc90)]++(logC l90 q90 pd (logAdd (logAdd ⟨1,0,0,[]⟩ (encO oA)) (encO oB)).log++(devC pd bn bw bl 256 d90++rc90))) .t (LW.splitA (LW.splitB (LW.splitC ?_)))
 refine LW.cT (dev_Crash W B pd bn bw bl 256 d90 hrd.ok [] none 0 [] (.inl rfl)) cl62 (Take.both (Take.none _) .t) ?_
 rintro _ _ ⟨qd,qn,qw,ql,rfl,rfl⟩;rw [List.nil_append];refine LW.splitA ?_
 refine LW.cG (vdb_Open2 W B ht qd qn qw ql 256 (d90.crash 256 []) (Rest.crash hrd.ok []) [97] 1 1 3 [5] [120] 0 3 hfi (crash_log hrd.ok hrd.flat hfi hla []) okA okB hvo5 (by decide) canA canB useB) cl61 ?_
 rintro _ _ ⟨pw,c96,rw96,im96,rfl,hca,hvw,rfl⟩;obtain⟨pl96,rfl⟩:=hca.2.2 rfl;refine LW.splitA ?_
 refine LW.go uR 11 rfl (LW.pn underlying46 ?_)
 refine LW.go uR 8 rfl (LW.bd [_,_,_] ((opC nilV oD).toArray) ?_)
 refine LW.cT (vdb_Ask W B pw qd qn qw ql 256 _ (cB pl96) rw96 im96 nilV oD hvw VecAt.none (by decide) (fun u x h _ _=>(u.oneCell'=true/\h.oneCell'=true)/\x=⟨3,[5],[120],2,false⟩) (req_May W B _ nilV oD VecAt.none okD (req_bare12 W B [97] 3)) (fun pc rc h=>(core_Ask12 W B pc (cB pl96) rc im96 nilV oD (colPut (colN oA pl96) oB 2) ⟨3,[5],[120],2,false⟩ h VecAt.none rfl (findB pl96) rfl).mono fun r post hq=>by obtain⟨u,ch,a1,a2,a3⟩:=hq;exact⟨u,_,_,_,ch,a1,a2.one,rfl,⟨⟨a2.one,rfl⟩,rfl⟩,a3⟩)) cl8 .n2 ?_
 rintro _ _ ⟨u104,x104,h104,n104,c104,rfl,⟨⟨hu104,hh104⟩,rfl⟩,rfl⟩;refine LW.splitA ?_
 refine LW.go uR 3 rfl (LW.alloc zero41 rfl ?_)
 intro ba24
 refine LW.sA (repC u104 ⟨3,[5],[120],2,false⟩ h104 n104) szt41 (repC_one hu104 ⟨3,[5],[120],2,false⟩ hh104 n104) ?_
 refine LW.go uR 6 rfl (LW.lA (opC nilV oA) underlying32 szt32 ?_)
 refine LW.eG (jud_Do W B pj rj nilV oA rfl VecAt.none (req_May W B [] nilV oA VecAt.none okA (req_bare1 W B [97] 1 1 1)) (jud_does W B pj rj nilV oA rfl VecAt.none (jud_create W B pj rj nilV oA hj VecAt.none (jud_name W B [97] rfl) (by decide) (by decide) (.inl rfl) (by decide) (by decide))) (t_Code_nil W B)) cl63 ?_
 refine LW.go uR 4 rfl (LW.alloc zero36 rfl ?_)
 intro ba26
 refine LW.sA (itemC nilV ItemP.none) szt36 (itemC_one rfl ItemP.none) ?_
 refine LW.go uR 6 rfl (LW.eT (law_Begun18 W B h0 hg ht) cl64 ((Take.none _)) ?_)
 refine LW.go uR 4 rfl (LW.ifaceNil _ rfl underlying43 (.inl ⟨rfl,rfl⟩) rfl ?_)
 refine LW.go uR 5 rfl (LW.ifaceNil _ rfl underlying43 (.inl ⟨rfl,rfl⟩) rfl ?_)
 refine LW.go uR 5 rfl (LW.ifaceNil _ rfl underlying43 (.inl ⟨rfl,rfl⟩) rfl ?_)
 refine LW.go uR 5 rfl (LW.load (v:=.slice (sA b61) 1 k61) rfl .t (rfl) one37 rfl ?_)
 refine LW.go uR 3 rfl (LW.eql true rfl rfl (rfl) rfl ?_)
 refine LW.go uR 5 rfl (LW.load (v:=.slice (sA b61) 1 k61) rfl .t (rfl) one37 rfl ?_)
 refine LW.go uR 1 rfl (LW.indexAddr (0) rfl rfl underlying37 ixs37 (by decide) (by decide) (rfl) rfl ?_)
 refine LW.go uR 1 rfl (LW.loadAgg (hitC (3,1)) rfl .t (hits_row (i:=0) rfl) underlying72 rfl (sze szt72) rfl ?_)
 refine LW.go uR 1 rfl (LW.bd [_,_] (#[.int .i64 3,.int .i64 1]) ?_)
 refine LW.go uR 1 rfl (LW.hitEql (x:=(3,1)) (y:=(3,1)) true rfl rfl rfl rfl ?_)
 refine LW.go uR 5 rfl (LW.ifaceNil _ rfl underlying43 (.inl ⟨rfl,rfl⟩) rfl ?_)
 refine LW.go uR 5 rfl (LW.ifaceNil _ rfl underlying43 (.inl ⟨rfl,rfl⟩) rfl ?_)
 refine LW.go uR 5 rfl (LW.load (v:=strV [120]) rfl .t (rfl) one9 rfl ?_)
 refine LW.go uR 1 rfl (LW.strEql (true) rfl rfl underlying9 (rfl) rfl ?_)
 refine LW.go uR 5 rfl (LW.ifaceNil _ rfl underlying43 (.inl ⟨rfl,rfl⟩) rfl ?_)
 refine LW.go uR 5 rfl (LW.ifaceNil _ rfl underlying43 (.inl ⟨rfl,rfl⟩) rfl ?_)
 refine LW.go uR 5 rfl (LW.ifaceNil _ rfl underlying43 (.inl ⟨rfl,rfl⟩) rfl ?_)
 refine LW.go uR 5 rfl (LW.ifaceNil _ rfl underlying43 (.inl ⟨rfl,rfl⟩) rfl ?_)
 refine LW.go uR 5 rfl (LW.ifaceNil _ rfl underlying43 (.inl ⟨rfl,rfl⟩) rfl ?_)
 refine LW.go uR 7 rfl (LW.load (v:=strV [120]) rfl .t (rfl) one9 rfl ?_)
 refine LW.go uR 1 rfl (LW.strEql (true) rfl rfl underlying9 (rfl) rfl ?_)
 refine LW.go uR 7 rfl (LW.load (v:=.int .i64 2) rfl .t (rfl) one2 rfl ?_)
 refine LW.go uR 1 rfl (LW.eqlT ?_)
 refine LW.go uR 5 rfl (LW.ifaceNil _ rfl underlying43 (.inl ⟨rfl,rfl⟩) rfl ?_)
 refine LW.go uR 5 rfl (LW.eT (jud_Whole W B pc (cB pl) rc2 bag [97] (colPut (colN oA pl) oB 2) hc2 (getB pl) (idsB pl) (by rw [show idsOf (colPut (colN oA pl) oB 2).s=[3] from idsB0 pl];decide) (core_Names1 W B pc (cB pl) rc2 bag [97] (colPut (colN oA pl) oB 2) hc2 (colsB pl) (by decide))) cl65 .n2 ?_)
 refine LW.splitA ?_
 refine LW.go uR 3 rfl (LW.eT (jud_Bound W B 5 (by decide)) cl66 ((Take.none _)) ?_)
 refine LW.go uR 1 rfl (LW.eql true rfl rfl (rfl) rfl ?_)
 refine LW.go uR 5 rfl (LW.eG (core_Seq W B pc (cB pl) rc2 bag hc2) cl67 ?_)
 refine LW.go uR 1 rfl (LW.eql true rfl rfl (rfl) rfl ?_)
 refine LW.go uR 5 rfl ?_
 refine NW.r1 ⟨_,⟨rfl,rfl⟩,?_⟩
 exact Sub.nil _
end
open Go.RowKit
def clampP (x:Int):Int:=max (-1048576) (min x 1048576)
def vec2 (xs:List Int):List Int:=(List.range 2).map fun j=>if j<xs.length then clampP (xs.getD j 0) else 0
def vec2At (xs:List Int)(i:Nat):List Int:=(List.range 2).map fun j=>if j<xs.length/\j<i then clampP (xs.getD j 0) else 0
theorem vec2_ok (xs:List Int):VOk (vec2 xs):=by
 refine⟨by simp [vec2],fun x hx=>?_⟩
 unfold vec2 at hx
 obtain⟨j,_,rfl⟩:=List.mem_map.1 hx
 unfold InB
 split
 . unfold clampP;omega
 . omega
theorem vec2_may (xs:List Int):mayV (vec2 xs) ((2:Nat):Int)=true:=by
 have h:=vec2_ok xs
 unfold mayV
 rw [if_neg (by simp [vec2])]
 rw [List.all_eq_true]
 intro x hx
 have:=h.2 x hx
 unfold InB at this
 unfold coordOk
 simp
 omega
theorem vec2At_0 (xs:List Int):vec2At xs 0=[0,0]:=by simp [vec2At,List.range_succ]
theorem vec2At_end (xs:List Int)(i:Nat)(h:¬ (i<2/\i<xs.length)):vec2At xs i=vec2 xs:=by
 unfold vec2At vec2
 refine List.map_congr_left fun j hj=>?_
 have:=List.mem_range.1 hj
 by_cases h1:j<xs.length
 . rw [if_pos h1,if_pos ⟨h1,by omega⟩]
 . rw [if_neg h1,if_neg fun h=>h1 h.1]
theorem vec2At_step (xs:List Int)(i:Nat)(h2:i<2)(hl:i<xs.length):((vec2At xs i).map i32v).set i (i32v (clampP (xs.getD i 0)))=(vec2At xs (i+1)).map i32v:=by
 have:i=0\/i=1:=by omega
 rcases this with rfl | rfl
 . simp [vec2At,List.range_succ,hl]
 . have h0:0<xs.length:=by omega
   simp [vec2At,List.range_succ,hl,h0]
section
variable (W:World)(B:Nat)
theorem law_Vec (rows:List Row)(v:Value)(xs:List Int)(hv:VecAt W B rows v xs) :
   Spec prog W B 7 [v,.int .i64 2] rows (fun r post=>∃ b,r=vsl (b,vec2 xs)/\post=[cr b 21 ((vec2 xs).map i32v)]++rows):=by
 have hz:∀ m,(madeCells (Value.int .i32 0).cells (m*1)).toList=List.replicate m (.int .i32 0):=fun m=>by
   rw [Nat.mul_one]
   exact madeCells_rep _ _ _ (by intro x hx;simp [Value.cells] at hx;exact hx) (by simp [Value.cells])
 obtain⟨A,cp,rfl,hcp,hl,hsrc,hA⟩:=hv
 refine Spec.eG [rows] func7 ntmps7 fun w0=>?_
 refine CW.go uR 8 rfl (LW.make (2) (2) (List.replicate 2 (.int .i32 0)) rfl rfl (by first | rfl | omega) (by first | rfl | omega) underlying25 info21 (by omega) (by omega) (by omega) (hz _) rfl ?_)
 intro bm8
 refine LW.go uR 5 rfl ?_
 rw [show List.replicate 2 (Value.int .i32 0)=(vec2At xs 0).map i32v by rw [vec2At_0];rfl]
 refine CW.go uR 5 rfl ?_
 refine CW.loopG (fun i:Nat=>[(6,iN i),(5,.slice (sA bm8) 2 2),(0,.slice A xs.length cp),(1,.int .i64 2)]) (fun i=>[[cr bm8 21 ((vec2At xs i).map i32v)],rows]) (fun i=>i<=2) (fun i=>2-i) 0 (by exact Nat.zero_le _) rfl (by repeat' constructor) ?_
 rintro i hi
 refine CW.go uR 5 rfl ?_
 by_cases hi2:i<2
 . refine LW.lssT ?_
   refine LW.go uR 7 rfl ?_
   by_cases hil:i<xs.length
   . refine LW.go uR 1 rfl (LW.lssT ?_)
     refine LW.go uR 11 rfl ?_
     obtain⟨a,rfl⟩:∃ x,A=some x:=smA hA
     refine LW.go uR 2 rfl (LW.indexAt rfl rfl underlying25 ixs25 (by omega) (by omega) rfl ?_)
     refine LW.loadRd (v:=i32v (xs.getD i 0)) rfl (hsrc.rd .t) (rd_at hil) one21 rfl ?_
     refine LW.min2 (min (xs.getD i 0) 1048576) rfl rfl (by split<;>omega) rfl ?_
     refine LW.max2 (clampP (xs.getD i 0)) rfl rfl (by unfold clampP;split<;>omega) rfl ?_
     refine LW.indexAddr (i) rfl rfl underlying25 ixs25 (by omega) (by omega) (by simp) rfl ?_
     refine LW.store rfl rfl .t (by simp [vec2At];omega) sz21 (rfl) ?_
     refine LW.go uR 3 rfl ?_
     rw [show ((vec2At xs i).map i32v).set i (.int .i32 (clampP (xs.getD i 0)))=(vec2At xs (i+1)).map i32v from vec2At_step xs i hi2 hil]
     refine CW.go uR 2 rfl (LW.ad ((i+1:Int)) ?_)
     exact LW.go uR 2 rfl (NW.mG (i+1) (by exact⟨by omega,by omega⟩))
   . refine LW.go uR 1 rfl (LW.lssF ?_)
     refine LW.go uR 6 rfl (NW.then_exit (NW.go uR 9 rfl ?_))
     refine NW.r1 ⟨_,⟨bm8,rfl,(rfl:[cr bm8 21 ((vec2 xs).map i32v)]++rows=_)⟩,?_⟩
     rw [<- vec2At_end xs i (by omega)];exact .s2
 . refine LW.lssF ?_
   refine LW.go uR 11 rfl (NW.then_exit (NW.go uR 9 rfl ?_))
   refine NW.r1 ⟨_,⟨bm8,rfl,(rfl:[cr bm8 21 ((vec2 xs).map i32v)]++rows=_)⟩,?_⟩
   rw [<- vec2At_end xs i (by omega)];exact .s2
end
open Go.RowKit
def topC (pd pv:Nat)(m:Int)(mv:Value)(puts:Nat):List Value:=[ptr pd,ptr pv,.int .i64 m,mv,iN puts]
theorem hit_neq (x y:Int×Int)(w:World):(binOp .neq 72 (hitV x) (hitV y)).run prog w=.ok (.bool (!(x.1==y.1 && x.2==y.2))) w:=by
 have h:=hit_eql x y w
 unfold hitV at h |-
 rw [run_eql_struct] at h
 rw [run_neq_struct]
 generalize (Op.equalIn 10000 72 (.agg (hitC x).toArray) (.agg (hitC y).toArray)).run prog w=res at h |-
 cases res with
 | ok b w'=>
  simp only [Result.andThen_ok] at h |-
  injection h with h1 h2
  injection h1 with h3
  rw [h2,h3]
 | _=>simp [Result.andThen] at h
section
variable {n:Nat}{S:World->Prop}{e:Env}{d ty:Nat}{pos:String}{af:Array Edge}
theorem Yl.hitNeq {yt:Nat}{p q:Operand}{x y:Int×Int}(r:Bool)(hx:e.ev p=some (hitV x))(hy:e.ev q=some (hitV y))(hr:(!(x.1==y.1 && x.2==y.2))=r):Yl prog n S e ⟨some d,.binOp .neq 72 p q yt,ty,pos,af,none⟩ (.bool r):=fun a w hf _=>by
 subst hr
 have hgd:(eqGuard .neq 72 p q (hitV x) (hitV y)).run prog w=.ok () w:=run_eqGuard_agg w .neq _ p q _ _ (by kernel_rfl)
 simp only [execOp,hf.eval hx,hf.eval hy,Sem.run_bind,hgd,Result.andThen_ok,hit_neq,Sem.run_pure]
end
section
variable (W:World)(B:Nat)
theorem law_Begun23 (h0:0<B)(hg:W.cell? ⟨0,0,none⟩=some (rty 43))(ht:Tab W B):Spec prog W B 11 [] [] (fun v post=>v=.bool true/\post=[]):=by
 refine Spec.eG [] func11 ntmps11 fun w0=>?_
 refine CW.go uR 7 rfl (LW.eT (law_begun23 W B h0 hg ht) cl25 ((Take.none _)) ?_)
 refine LW.go uR 4 rfl ?_
 refine NW.r1 ⟨_,⟨rfl,rfl⟩,?_⟩
 exact Sub.nil _
theorem top_begun (h0:0<B)(hg:W.cell? ⟨0,0,none⟩=some (rty 43))(ht:Tab W B):Spec prog W B 4 [] [] (fun v post=>v=.bool true/\post=[]):=by
 refine Spec.eG [] func4 ntmps4 fun w0=>?_
 refine CW.go uR 7 rfl (LW.eT (law_Begun23 W B h0 hg ht) cl11 ((Take.none _)) ?_)
 refine LW.go uR 4 rfl ?_
 refine NW.r1 ⟨_,⟨rfl,rfl⟩,?_⟩
 exact Sub.nil _
theorem top_do (p pd pv:Nat)(m:Int)(mv:Value)(puts:Nat)(rows im:List Row)(vv:Value)(o:OpP)(Q:List Row->Prop)(hv:VecAt W B im vv o.vec)
   (h:Spec prog W B 8 [ptr pv,opV vv o] (rows++im) (fun r post=>r=.tuple #[.agg rep0.toArray,.nilIface]/\Q post)) :
   Spec prog W B 6 [ptr p,opV vv o] ([cr p 49 (topC pd pv m mv puts)]++(rows++im)) (fun r post=>r=.bool true/\∃ post',Q post'/\post=[cr p 49 (topC pd pv m mv puts)]++post'):=by
 have hbx:=opV_cells hv o
 have hv1:=hv.one
 refine Spec.eG [[cr p 49 (topC pd pv m mv puts)],rows++im] func6 ntmps6 fun w0=>?_
 refine CW.go uR 2 rfl (LW.bx ?_)
 intro bb3
 refine LW.go uR 4 rfl ?_
 rw [hbx]
 refine CW.drawH [cr p 49 (topC pd pv m mv puts),cr bb3 32 (opC vv o)] mixed ?_
 refine AW.ts [0,1,2,3,4] 7 (TW.mv ?_)
 refine TW.np ?_
 refine TW.fa fa49_1 ?_
 refine TW.ld one46 ?_
 refine TW.take rfl (Yl.loadAgg (opC vv o) rfl (by repeat (first | exact List.Mem.head _ | refine List.Mem.tail _ ?_)) zd underlying32 rfl (sze szt32)) rfl ?_
 refine TW.nil (AW.all [5,9] (by kernel_rfl) rfl ?_)
 refine AWs.cons rfl ?_ ?_
 . refine LW.cG (h) cl8 ?_
   rintro _ post' ⟨rfl,hQ⟩
   refine LW.nil (AW.b (AW.ts [6,7,8] 3 (TW.mv ?_)))
   refine TW.take rfl (Yl.extract rfl rfl) rfl ?_
   refine TW.take rfl (Yl.extract rfl rfl) rfl ?_
   refine TW.nil (AW.a 9 ?_)
   refine LW.alloc zero41 rfl ?_
   intro ba5
   refine LW.nil (AW.b (AW.a 10 ?_))
   refine LW.sA (rep0) szt41 (rep0_one) ?_
   refine LW.nil (AW.b (AW.ts [11] 0 (TW.as ?_)))
   refine TW.nil (AW.d ?_)
   refine NW.go uR 4 rfl (LW.ifaceNil _ rfl underlying43 (.inl ⟨rfl,rfl⟩) rfl ?_)
   refine LW.go uR 4 rfl ?_
   refine NW.r1 ⟨_,⟨rfl,post',hQ,rfl⟩,?_⟩
   exact .s2
 refine AWs.cons rfl ?_ ?_
 . refine LW.alloc zero41 rfl ?_
   intro ba5
   refine LW.nil (AW.b (AW.a 5 ?_))
   refine LW.cG (h) cl8 ?_
   rintro _ post' ⟨rfl,hQ⟩
   refine LW.nil (AW.b (AW.ts [6,7,8] 2 (TW.mv ?_)))
   refine TW.take rfl (Yl.extract rfl rfl) rfl ?_
   refine TW.take rfl (Yl.extract rfl rfl) rfl ?_
   refine TW.nil (AW.a 10 ?_)
   refine LW.sA (rep0) szt41 (rep0_one) ?_
   refine LW.nil (AW.b (AW.ts [11] 0 (TW.as ?_)))
   refine TW.nil (AW.d ?_)
   refine NW.go uR 4 rfl (LW.ifaceNil _ rfl underlying43 (.inl ⟨rfl,rfl⟩) rfl ?_)
   refine LW.go uR 4 rfl ?_
   refine NW.r1 ⟨_,⟨rfl,post',hQ,rfl⟩,?_⟩
   exact .s2
 exact AWs.nil
theorem top_Hits (v1 v2:Value)(l:List (Int×Int))(c1 c2:List Row)(ho1:OwnS 72 2 v1 l.length (hitsC l) c1)(ho2:OwnS 72 2 v2 l.length (hitsC l) c2)(hn:l.length<=1000000) :
   Spec prog W B 9 [v1,v2] (c1++c2) (fun r post=>r=.bool true/\post=c1++c2):=by
 by_cases hl0:l.length=0
 . obtain⟨A1,cp1,rfl,hA1,hcp1⟩:=ho1.val
   obtain⟨A2,cp2,rfl,hA2,hcp2⟩:=ho2.val
   refine Spec.eG [c1,c2] func9 ntmps9 fun w0=>?_
   refine CW.go uR 12 rfl (LW.neq false rfl rfl (bne_self_eq_false _) rfl ?_)
   refine LW.go uR 14 rfl ?_
   refine CW.loopG (fun _:Unit=>[(13,.int .i64 0),(12,iN l.length)]) (fun _=>[c1,c2]) (fun _=>True) (fun _=>0) () (by trivial) rfl (by repeat' constructor) ?_
   rintro⟨⟩ _
   refine CW.go uR 2 rfl (LW.lssF ?_)
   refine LW.go uR 6 rfl (NW.then_exit (NW.go uR 8 rfl ?_))
   refine NW.r1 ⟨_,⟨rfl,rfl⟩,?_⟩
   exact .s2
 rcases ho1 with ⟨_,h0,_,_⟩ | ⟨b1,k1,s1,rfl,hx1,hk1,hs1,rfl⟩
 . exact absurd h0 hl0
 rcases ho2 with ⟨_,h0,_,_⟩ | ⟨b2,k2,s2,rfl,hx2,hk2,hs2,rfl⟩
 . exact absurd h0 hl0
 refine Spec.eG [[cr b1 72 (hitsC l++s1)],[cr b2 72 (hitsC l++s2)]] func9 ntmps9 fun w0=>?_
 refine CW.go uR 12 rfl (LW.neq false rfl rfl (bne_self_eq_false _) rfl ?_)
 refine LW.go uR 14 rfl ?_
 refine CW.loopG (fun i:Nat=>[(13,iN i),(12,iN l.length),(0,.slice (sA b1) l.length k1),(1,.slice (sA b2) l.length k2)]) (fun _=>[[cr b1 72 (hitsC l++s1)],[cr b2 72 (hitsC l++s2)]]) (fun i=>i<=l.length) (fun i=>l.length-i) 0 (by exact Nat.zero_le _) rfl (by repeat' constructor) ?_
 rintro i hi
 refine CW.go uR 2 rfl (LW.lss (decide ((i:Int)<(l.length:Int))) rfl rfl (rfl) rfl ?_)
 refine LW.go uR 3 rfl ?_
 refine CW.cond rfl (fun hc14=>?_) (fun hc14=>?_)
 . have hin:i<l.length:=oT hc14
   obtain⟨x,hx,_⟩:=drop_at hin
   refine CW.go uR 11 rfl (CW.drawH [cr b1 72 (hitsC l++s1),cr b2 72 (hitsC l++s2)] mixed ?_)
   refine AW.ts [0,1,2,3,4,5,6,7,8] 0 (TW.mv ?_)
   refine TW.mv ?_
   refine TW.take rfl (Yl.indexAddr (i*2) rfl rfl underlying37 ixs37 (by omega) (by omega) (by simp)) rfl ?_
   refine TW.take rfl (Yl.loadAgg (hitC x) rfl (by repeat (first | exact List.Mem.head _ | refine List.Mem.tail _ ?_)) (by have h:=hits_row (s:=s1) hx;simpa using h) underlying72 rfl (sze szt72)) rfl ?_
   refine TW.mv ?_
   refine TW.mv ?_
   refine TW.take rfl (Yl.indexAddr (i*2) rfl rfl underlying37 ixs37 (by omega) (by omega) (by simp)) rfl ?_
   refine TW.take rfl (Yl.loadAgg (hitC x) rfl (by repeat (first | exact List.Mem.head _ | refine List.Mem.tail _ ?_)) (by have h:=hits_row (s:=s2) hx;simpa using h) underlying72 rfl (sze szt72)) rfl ?_
   refine TW.take rfl (Yl.hitNeq (x:=x) (y:=x) false rfl rfl (by simp)) rfl ?_
   refine TW.nil (AW.d ?_)
   refine NW.go uR 6 rfl (LW.ad (((i+1:Nat):Int)) ?_)
   exact LW.go uR 2 rfl (NW.mG (i+1) (by exact⟨by omega,by omega⟩))
 . refine CW.go uR 2 rfl (NW.then_exit (NW.go uR 8 rfl ?_))
   refine NW.r1 ⟨_,⟨rfl,rfl⟩,?_⟩
   exact .s2
end
open Go.RowKit
abbrev nmA:Nm:=[97]
abbrev nmB:Nm:=[98]
abbrev nmN:Nm:=[110,111,119]
def FlC (x:ColP)(n:Nat):Prop:=x.x.x.kind=1/\x.dim=2/\x.s.length<=n
theorem idxPut_kind (x:IdxP)(id:Int)(v:List Int)(d:Nat):(idxPut x id v d).x.kind=x.x.kind:=by
 obtain⟨m,k,xx⟩:=x
 cases xx<;>rfl
theorem FlC.put {x:ColP}{n:Nat}(h:FlC x n)(o:OpP)(s:Int):FlC (colPut x o s) (n+1):=by
 refine⟨(idxPut_kind _ _ _ _).trans h.1,h.2.1,?_⟩
 have h3:=h.2.2
 show (aset x.s o.id _).length<=n+1
 rw [aset_length]
 split<;>omega
theorem FlC.new {o:OpP}(h:o.dim=2)(pl:Nat):FlC (colN o pl) 0:=by
 refine⟨rfl,?_,Nat.le_refl 0⟩
 show o.dim.toNat=2
 rw [h];rfl
theorem colBlocks_le {c:CorP}{s:Nm}{x:ColP}{n:Nat}(hmv:c.mv=none)(h:FlC x n):colBlocks c s x<=(n+7)/8:=by
 have h1:=stoLen_le x.s
 have h2:=h.2.2
 unfold colBlocks movesP
 rw [hmv,h.1]
 simp [blocksP]
 omega
theorem putE_ok {c:CorP}{col:Nm}{x:ColP}{n:Nat}(hg:aget c.cols col=some x)(hf:FlC x n)(hmv:c.mv=none)(hu:usedP c<=20)(id dr:Int)(h1:1<=id)(h2:id<=1000)(xs:List Int):putE c (op3 col id (vec2 xs) [] dr)=0:=by
 have hm:mayV (vec2 xs) ((x.dim:Nat):Int)=true:=by rw [hf.2.1];exact vec2_may xs
 have ht:thrP c col=false:=by unfold thrP movesP;rw [hmv];rfl
 have hmo:¬ moreP c col x>(freeP c:Int):=by
  unfold moreP movesP freeP
  rw [hmv,hf.1]
  simp [blocksP]
  omega
 unfold putE
 rw [show (op3 col id (vec2 xs) [] dr).col=col from rfl,hg]
 show (if id<1\/id>1000 then (2:Int) else if mayV (vec2 xs) ((x.dim:Nat):Int)=false then 1 else if ([]:List UInt8).length>40 then 11 else if thrP c col=true then 7 else if (stoGet x.s id).isNone=true/\moreP c col x>(freeP c:Int) then 6 else 0)=0
 rw [if_neg (by omega),if_neg (by rw [hm];decide),if_neg (by decide),if_neg (by rw [ht];decide),if_neg fun h=>hmo h.2]
structure C1 (c:CorP)(xa:ColP)(m:Nat):Prop where
 cols:c.cols=[(nmA,xa)]
 al:c.alias=[(nmN,nmA)]
 mv:c.mv=none
 seq:c.seq<=(m:Int)
structure C2 (c:CorP)(xa xb:ColP)(on:Nm)(m:Nat):Prop where
 cols:c.cols=[(nmA,xa),(nmB,xb)]
 al:c.alias=[(nmN,on)]
 mv:c.mv=none
 seq:c.seq<=(m:Int)
 two:on=nmA\/on=nmB
theorem canA0:createE CorP.new (op1 nmA 2 1 1)=0:=by decide +kernel
theorem namesA (pl:Nat):namesE (createQ (seqP CorP.new) (op1 nmA 2 1 1) pl) (op5 nmN nmA)=0:=by
 have e1:(createQ (seqP CorP.new) (op1 nmA 2 1 1) pl).cols=[(nmA,colN (op1 nmA 2 1 1) pl)]:=by simp [createQ,seqP,CorP.new,op1,opZ]
 have e2:(createQ (seqP CorP.new) (op1 nmA 2 1 1) pl).alias=[]:=rfl
 unfold namesE
 rw [e1,e2]
 rw [if_neg (by decide +kernel),if_neg (by decide),if_neg (by simp [aget,op5,opZ]),if_neg (by simp [aget,op5,opZ]),if_neg (by simp)]
theorem C1.new (pl:Nat):C1 (aliasQ (seqP (createQ (seqP CorP.new) (op1 nmA 2 1 1) pl)) (op5 nmN nmA)) (colN (op1 nmA 2 1 1) pl) 2:=by
 refine⟨by simp [aliasQ,createQ,seqP,CorP.new,op1,opZ],?_,rfl,?_⟩
 . simp [aliasQ,createQ,seqP,CorP.new,op1,op5,opZ,aset]
 . show (0:Int)+1+1<=((2:Nat):Int)
   omega
theorem C1.used {c:CorP}{xa:ColP}{m n:Nat}(h:C1 c xa m)(hf:FlC xa n):usedP c<=(n+7)/8:=by
 unfold usedP
 rw [h.cols]
 simp only [List.map_cons,List.map_nil,List.sum_cons,List.sum_nil]
 have:=colBlocks_le (s:=nmA) h.mv hf
 omega
theorem C2.used {c:CorP}{xa xb:ColP}{on:Nm}{m n k:Nat}(h:C2 c xa xb on m)(hf:FlC xa n)(hk:FlC xb k):usedP c<=(n+7)/8+(k+7)/8:=by
 unfold usedP
 rw [h.cols]
 simp only [List.map_cons,List.map_nil,List.sum_cons,List.sum_nil]
 have h1:=colBlocks_le (s:=nmA) h.mv hf
 have h2:=colBlocks_le (s:=nmB) h.mv hk
 omega
theorem C1.put {c:CorP}{xa:ColP}{m n:Nat}(h:C1 c xa m)(hf:FlC xa n)(hn:n<=40)(id dr:Int)(h1:1<=id)(h2:id<=1000)(xs:List Int) :
  putE c (op3 nmA id (vec2 xs) [] dr)=0/\aget c.cols nmA=some xa/\usedP (putQ (seqP c) (op3 nmA id (vec2 xs) [] dr) xa)<=64/\C1 (putQ (seqP c) (op3 nmA id (vec2 xs) [] dr) xa) (colPut xa (op3 nmA id (vec2 xs) [] dr) (c.seq+1)) (m+1):=by
 have hg:aget c.cols nmA=some xa:=by rw [h.cols];simp [aget]
 have hu:=h.used hf
 have hC:C1 (putQ (seqP c) (op3 nmA id (vec2 xs) [] dr) xa) (colPut xa (op3 nmA id (vec2 xs) [] dr) (c.seq+1)) (m+1):=by
  refine⟨?_,h.al,h.mv,?_⟩
  . show aset c.cols nmA (colPut xa _ (c.seq+1))=_
    rw [h.cols]
    simp [aset]
  . have:=h.seq
    show c.seq+1<=((m+1:Nat):Int)
    omega
 refine⟨putE_ok hg hf h.mv (by omega) id dr h1 h2 xs,hg,?_,hC⟩
 have:=hC.used (hf.put _ _)
 omega
theorem C1.createB {c:CorP}{xa:ColP}{m:Nat}(h:C1 c xa m) :
   createE c (op1 nmB 2 1 1)=0/\∀ pl,C2 (createQ (seqP c) (op1 nmB 2 1 1) pl) xa (colN (op1 nmB 2 1 1) pl) nmA (m+1):=by
 constructor
 . have hb:blocksP (op1 nmB 2 1 1).index 0=0:=by decide +kernel
   unfold createE
   rw [h.cols,h.al]
   rw [if_neg (by decide +kernel),if_neg (by simp [aget,op1,opZ]),if_neg (by decide +kernel),if_neg (by decide +kernel),if_neg (by simp),if_neg (by omega)]
 . intro pl
   refine⟨?_,h.al,h.mv,?_,.inl rfl⟩
   . show c.cols++_=_
     rw [h.cols];rfl
   . have:=h.seq
     show c.seq+1<=((m+1:Nat):Int)
     omega
theorem C2.put {c:CorP}{xa xb:ColP}{on:Nm}{m n k:Nat}(h:C2 c xa xb on m)(hf:FlC xa n)(hb:FlC xb k)(hn:n<=40)(hk:k<=40)(id dr:Int)(h1:1<=id)(h2:id<=1000)(xs:List Int) :
  putE c (op3 nmB id (vec2 xs) [] dr)=0/\aget c.cols nmB=some xb/\usedP (putQ (seqP c) (op3 nmB id (vec2 xs) [] dr) xb)<=64/\C2 (putQ (seqP c) (op3 nmB id (vec2 xs) [] dr) xb) xa (colPut xb (op3 nmB id (vec2 xs) [] dr) (c.seq+1)) on (m+1):=by
 have hg:aget c.cols nmB=some xb:=by rw [h.cols];simp [aget]
 have hu:=h.used hf hb
 have hC:C2 (putQ (seqP c) (op3 nmB id (vec2 xs) [] dr) xb) xa (colPut xb (op3 nmB id (vec2 xs) [] dr) (c.seq+1)) on (m+1):=by
  refine⟨?_,h.al,h.mv,?_,h.two⟩
  . show aset c.cols nmB (colPut xb _ (c.seq+1))=_
    rw [h.cols]
    simp [aset]
  . have:=h.seq
    show c.seq+1<=((m+1:Nat):Int)
    omega
 refine⟨putE_ok hg hb h.mv (by omega) id dr h1 h2 xs,hg,?_,hC⟩
 have:=hC.used hf (hb.put _ _)
 omega
theorem C2.turn {c:CorP}{xa xb:ColP}{on:Nm}{m:Nat}(h:C2 c xa xb on m)(to:Nm)(ht:to=nmA\/to=nmB) :
   namesE c (op5 nmN to)=0/\C2 (aliasQ (seqP c) (op5 nmN to)) xa xb to (m+1):=by
 have hs:=h.seq
 have hc:to≠[]:=by rcases ht with rfl | rfl<;>decide
 constructor
 . unfold namesE
   rw [h.cols,h.al]
   rcases ht with rfl | rfl
   . rw [if_neg (by decide +kernel),if_neg (by decide),if_neg (by simp [aget,op5,opZ]),if_neg (by simp [aget,op5,opZ]),if_neg (by simp [aget,op5,opZ])]
   . rw [if_neg (by decide +kernel),if_neg (by decide),if_neg (by simp [aget,op5,opZ]),if_neg (by simp [aget,op5,opZ]),if_neg (by simp [aget,op5,opZ])]
 . refine⟨h.cols,?_,h.mv,?_,ht⟩
   . show (if to=[] then adel c.alias nmN else aset c.alias nmN to)=_
     rw [if_neg hc,h.al]
     simp [aset]
   . show c.seq+1<=((m+1:Nat):Int)
     omega
theorem idxS_len {x:ColP}(h:x.x.x.kind=1)(q:List Int)(k:Nat):(idxS x.x q k).length<=k:=by
 unfold idxS
 generalize x.x.x=y at h |-
 cases y with
 | flat l=>exact bestOf_len _ _
 | _=>cases h
theorem C2.find {c:CorP}{xa xb:ColP}{on:Nm}{m n k:Nat}(h:C2 c xa xb on m)(hf:FlC xa n)(hb:FlC xb k):∃ x,findP c nmN=some x/\findP c on=some x/\x.dim=2/\x.x.x.kind=1:=by
 rcases h.two with rfl | rfl
 . refine⟨xa,?_,?_,hf.2.1,hf.1⟩
   . unfold findP;rw [h.cols,h.al];simp [aget]
   . unfold findP;rw [h.cols];simp [aget]
 . refine⟨xb,?_,?_,hb.2.1,hb.1⟩
   . unfold findP;rw [h.cols,h.al];simp [aget]
   . unfold findP;rw [h.cols];simp [aget]
theorem C2.held {c:CorP}{xa xb:ColP}{on:Nm}{m:Nat}(h:C2 c xa xb on m):(aget c.cols on).isSome=true/\(c.alias.any fun y=>y.2==on)=true:=by
 rw [h.cols,h.al]
 rcases h.two with rfl | rfl
 . exact⟨by simp [aget],by simp⟩
 . exact⟨by simp [aget],by simp⟩
theorem C2.off {c:CorP}{xa xb:ColP}{on:Nm}{m:Nat}(h:C2 c xa xb on m) :
   namesE c (op5 nmN [])=0/\(aget (aliasQ (seqP c) (op5 nmN [])).cols on).isSome=true/\((aliasQ (seqP c) (op5 nmN [])).alias.any fun y=>y.2==on)=false/\(aliasQ (seqP c) (op5 nmN [])).seq<=((m+1:Nat):Int):=by
 have hs:=h.seq
 refine⟨?_,h.held.1,?_,?_⟩
 . unfold namesE
   rw [h.al]
   rw [if_neg (by decide +kernel),if_pos (show (op5 nmN []).col=[] from rfl),if_neg (by simp [aget,op5,opZ])]
 . show ((if ([]:Nm)=[] then adel c.alias nmN else aset c.alias nmN []).any fun y=>y.2==on)=false
   rw [if_pos rfl,h.al]
   simp [adel]
 . show c.seq+1<=((m+1:Nat):Int)
   omega
theorem txt_le (s:Nm):(txt s).length<=9+s.length:=by
 have:=sizeZ_le (s.length:Int)
 unfold txt
 rw [List.length_append,encZ_len]
 omega
theorem encF_le (o:OpP)(ho:OpOk o):(encF o).length<=150:=by
 have h1:=encs_len [o.dim,o.metric,o.index]
 have h2:=encs_len [o.id]
 have h3:=encV_len o.vec
 have h4:=txt_le o.pay
 have h5:=encs_len [o.draw]
 have h6:=ho.vec
 have h7:=ho.pay
 simp only [List.length_cons,List.length_nil] at h1 h2 h5
 unfold encF
 split
 . omega
 . split
   . simp only [List.length_append];omega
   . simp
theorem encO_ok (o:OpP)(ho:OpOk o):okRec (encO o)/\(encO o).length<=190:=by
 have h1:=encs_len [o.kind]
 have h0:1<=(encs [o.kind]).length:=by simp [encs,encZ_len]
 have h2:=encF_le o ho
 have h3:=txt_le o.name
 have h4:=txt_le o.col
 have h5:=ho.col
 have h6:=ho.name
 simp only [List.length_cons,List.length_nil] at h1
 have hl:(encO o).length<=190/\1<=(encO o).length:=by
  unfold encO
  split
  . simp only [List.length_append];omega
  . simp only [List.length_append];omega
 exact⟨⟨hl.2,by omega⟩,hl.1⟩
theorem logAdd_used (g:LogS)(b:List UInt8):(logAdd g b).used=g.used+(b.length+2):=by
 show (recsB (g.recs++[b])).length=(recsB g.recs).length+_
 rw [recsB_app,List.length_append,recsB_cons,List.length_append,recB_len]
 simp [recsB]
end Go.Proofs.YtnlpccoigflheaaGreatDoor
