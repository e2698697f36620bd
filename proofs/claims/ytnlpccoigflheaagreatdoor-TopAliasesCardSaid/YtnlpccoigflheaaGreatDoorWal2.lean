/- Slot2 LooseDef WalDef Wal1 AppF Wal2 -/
import Derived.Test.YtnlpccoigflheaaGreatDoorSlot1
import Derived.Test.YtnlpccoigflheaaGreatDoorDev2
import Derived.Test.YtnlpccoigflheaaGreatDoorFac
namespace Go.Proofs.YtnlpccoigflheaaGreatDoor
open Go.RowKit
open Go.Proofs.Tryz
def TuG:Tbl:=⟨[(108,0,0),(227,0,0),(227,1,1),(227,2,2)],[],[65,166]⟩
theorem uG:TuG.Ok Tryz.prog:=.of (⟨⟨_,Tryz.underlying65⟩,⟨_,Tryz.underlying166⟩,trivial⟩)
def newestS (N:Nat->List UInt8):Int×List Int:=if (slotGet (N 0) 0).1>(slotGet (N 1) 1).1 then slotGet (N 0) 0 else slotGet (N 1) 1
def DevS.N (s:DevS)(i:Nat):List UInt8:=s.now.getD i []
def DevS.V (s:DevS)(i:Nat):List UInt8:=s.was.getD i []
def slC (q p:Nat)(serial:Int)(bad:Bool):Row:=cr q 227 [ptr p,.int .i64 serial,.bool bad]
def setS (n:Nat)(d:DevS)(serial:Int)(ns:List Int):Int×DevS:=
 if d.err n ((serial+1).tmod 2) 64=0 then ((d.write n ((serial+1).tmod 2) (slotB (serial+1) ns)).flushE,(d.write n ((serial+1).tmod 2) (slotB (serial+1) ns)).flush n)
 else (d.err n ((serial+1).tmod 2) 64,d.write n ((serial+1).tmod 2) (slotB (serial+1) ns))
theorem setS_ok {n:Nat}{d:DevS}(hd:d.Ok n)(serial:Int)(ns:List Int):(setS n d serial ns).2.Ok n:=by
 unfold setS
 split
 . exact (hd.write _ _).flush
 . exact hd.write _ _
section
variable (W:World)(B:Nat)
theorem slot_newest (p bn bw bl n:Nat)(s:DevS)(hs:s.Ok n) :
   Spec prog W B 133 [ptr p] (devC p bn bw bl n s)
    (fun v post=>∃ v2 ch,v=.tuple #[.int .i64 (newestS s.N).1,v2]/\OwnS 2 1 v2 (newestS s.N).2.length ((newestS s.N).2.map i64v) ch/\post=ch++devC p bn bw bl n s):=by
 have hn0:=hs.n0
 have hg0:=slot_get W B p bn bw bl n s hs 0 (by omega)
 have hg1:=slot_get W B p bn bw bl n s hs 1 (by omega)
 have hN0:s.now.getD 0 []=s.N 0:=rfl
 have hN1:s.now.getD 1 []=s.N 1:=rfl
 have h01:((0:Nat):Int)=0:=rfl
 have h11:((1:Nat):Int)=1:=rfl
 rw [hN0,h01] at hg0
 rw [hN1,h11] at hg1
 have hyes:(slotGet (s.N 0) 0).1>(slotGet (s.N 1) 1).1->newestS s.N=slotGet (s.N 0) 0:=fun h=>by rw [newestS,if_pos h]
 have hno:¬ (slotGet (s.N 0) 0).1>(slotGet (s.N 1) 1).1->newestS s.N=slotGet (s.N 1) 1:=fun h=>by rw [newestS,if_neg h]
 generalize slotGet (s.N 0) 0=x at hg0 hyes hno
 generalize slotGet (s.N 1) 1=y at hg1 hyes hno
 refine Spec.eG [devC p bn bw bl n s] func133 ntmps133 fun w0=>?_
 refine CW.go uG 9 rfl (LW.cG (hg0) cl208 ?_)
 rintro _ _ ⟨v2,ch,rfl,ho,rfl⟩;refine LW.split2 ?_
 refine LW.go uG 10 rfl (LW.cG (hg1) cl208 ?_)
 rintro _ _ ⟨v3,ch3,rfl,ho3,rfl⟩;refine LW.split2 ?_
 refine LW.go uG 12 rfl (LW.gtr _ rfl rfl rfl rfl ?_)
 refine LW.go uG 2 rfl ?_
 refine CW.cond rfl (fun hc20=>?_) (fun hc20=>?_)
 . replace hc20:=of_decide_eq_true hc20
   try dsimp only at hc20
   have hnw:=hyes hc20
   refine CW.go uG 10 rfl ?_
   refine NW.ret2 rfl rfl rfl ⟨_,⟨v2,ch,by rw [hnw];rfl,by rw [hnw];exact ho,rfl⟩,?_⟩
   exact .s2
 . replace hc20:=of_decide_eq_false hc20
   try dsimp only at hc20
   have hnw:=hno hc20
   refine CW.go uG 11 rfl ?_
   refine NW.ret2 rfl rfl rfl ⟨_,⟨v3,ch3,by rw [hnw];rfl,by rw [hnw];exact ho3,rfl⟩,?_⟩
   exact .s2
theorem slot_Set (q p bn bw bl n:Nat)(s:DevS)(hs:s.Ok n)(serial:Int)(h0:0<=serial)(h1:serial<=4611686018427387904)(ns:List Int)(hns:∀ n∈ns,I64 n)(h4:ns.length<=4)(src:List Row)(A:Option Addr)(cp:Nat)(hsrc:Src W B src A (ns.map i64v)) :
  Spec prog W B 92 [ptr q,.slice A ns.length cp] (src++([slC q p serial false]++devC p bn bw bl n s))
    (fun v post=>v=.int .i64 (setS n s serial ns).1/\post=src++([slC q p (if (setS n s serial ns).1=0 then serial+1 else serial) (decide ((setS n s serial ns).1≠0))]++devC p bn bw bl n (setS n s serial ns).2)):=by
 have hsB:=slotB_len (serial+1) ns
 have hyes:s.err n ((serial+1).tmod 2) 64=0->setS n s serial ns=((s.write n ((serial+1).tmod 2) (slotB (serial+1) ns)).flushE,(s.write n ((serial+1).tmod 2) (slotB (serial+1) ns)).flush n):=fun h=>by rw [setS,if_pos h]
 have hno:s.err n ((serial+1).tmod 2) 64≠0->setS n s serial ns=(s.err n ((serial+1).tmod 2) 64,s.write n ((serial+1).tmod 2) (slotB (serial+1) ns)):=fun h=>by rw [setS,if_neg h]
 refine Spec.eG [src,[cr q 227 [ptr p,.int .i64 serial,.bool false]],devC p bn bw bl n s] func92 ntmps92 fun w0=>?_
 refine CW.go uG 10 rfl (LW.pn underlying106 ?_)
 refine LW.go uG 8 rfl (LW.gtrF ?_)
 refine LW.go uG 9 rfl (LW.ld one4 ?_)
 refine LW.go uG 8 rfl (CW.drawH [cr q 227 [ptr p,.int .i64 serial,.bool false]] mixed ?_)
 refine AW.ts [0,1,2,3,4,5,6,7,8,9,10,11,12,13,14,15] 3 (TW.mv ?_)
 refine TW.np ?_
 refine TW.fa fa227_0 ?_
 refine TW.ld one45 ?_
 refine TW.mv ?_
 refine TW.np ?_
 refine TW.fa fa227_1 ?_
 refine TW.ld one2 ?_
 refine TW.take rfl (Yl.add64 rfl rfl (by omega) (by omega)) rfl ?_
 refine TW.take rfl (Yl.rem ((serial+1).tmod 2) rfl rfl (by decide) (rfl)) rfl ?_
 refine TW.mv ?_
 refine TW.np ?_
 refine TW.fa fa227_1 ?_
 refine TW.ld one2 ?_
 refine TW.take rfl (Yl.add64 rfl rfl (by omega) (by omega)) rfl ?_
 refine TW.mv ?_
 refine TW.nil (AW.a 16 ?_)
 refine LW.cG (slot_put W B (serial+1) ⟨by omega,by omega⟩ ns hns h4 src A cp hsrc) cl160 ?_
 rintro _ _ ⟨A4,cp4,ch4,rfl,hs4,rfl⟩;refine LW.split2 ?_
 refine LW.nil (AW.b (AW.a 17 ?_))
 have hW:=dev_WriteG W B p bn bw bl n s hs ((serial+1).tmod 2) ch4 A4 cp4 (slotB (serial+1) ns) hs4
 rw [hsB] at hW
 refine LW.eT (hW) cl90 .n2 ?_
 refine LW.split2 ?_
 refine LW.nil (AW.b (AW.ts [18] 0 (TW.as ?_)))
 refine TW.nil (AW.d ?_)
 refine NW.go uG 1 rfl ?_
 refine CW.cutG (fun st:Int×DevS=>[(5,.int .i64 st.1),(0,ptr q)]) (fun st=>[src,[cr q 227 [ptr p,.int .i64 serial,.bool false]],devC p bn bw bl n st.2]) (fun st=>setS n s serial ns=st) ?cut10_1 ?cut10_2
 case cut10_1=>
  refine CW.go uG 3 rfl (LW.eql _ rfl rfl rfl rfl ?_)
  refine LW.go uG 2 rfl ?_
  refine CW.cond rfl (fun hc37=>?_) (fun hc37=>?_)
  . replace hc37:=beq_iff_eq.1 hc37
    try dsimp only at hc37
    replace hyes:=hyes hc37
    have hs1:=hs.write ((serial+1).tmod 2) (slotB (serial+1) ns)
    generalize s.write n ((serial+1).tmod 2) (slotB (serial+1) ns)=d1 at hyes hs1 |-
    refine CW.go uG 4 rfl (LW.ld one45 ?_)
    refine LW.eG (dev_Flush W B p bn bw bl n d1 hs1) cl91 ?_
    exact LW.go uG 2 rfl (NW.mG ((d1.flushE,d1.flush n)) (by exact hyes))
  . replace hc37:=beq_eq_false_iff_ne.1 hc37
    try dsimp only at hc37
    replace hno:=hno hc37
    exact CW.go uG 1 rfl (NW.mG ((s.err n ((serial+1).tmod 2) 64,s.write n ((serial+1).tmod 2) (slotB (serial+1) ns))) (by exact hno))
 case cut10_2=>
  rintro⟨e,d2⟩ hS;rw [hS]
  try dsimp only
  refine CW.go uG 4 rfl (LW.neq _ rfl rfl rfl rfl ?_)
  refine LW.go uG 2 rfl ?_
  refine CW.cond rfl (fun hc44=>?_) (fun hc44=>?_)
  . replace hc44:=bne_iff_ne.1 hc44
    try dsimp only at hc44
    refine CW.go uG 5 rfl (LW.sr sz4 ?_)
    refine LW.go uG 10 rfl ?_
    refine NW.r1 ⟨_,⟨rfl,rfl⟩,?_⟩
    (have h9:([slC q p (if e=0 then serial+1 else serial) (decide (e≠0))]:List Row)=[cr q 227 [ptr p,.int .i64 serial,.bool true]]:=by rw [if_neg hc44,decide_eq_true hc44];rfl);rw [h9];exact Sub.app .t .s2
  . replace hc44:=bne_eq_false_iff_eq.1 hc44
    try dsimp only at hc44
    refine CW.go uG 7 rfl (LW.ld one2 ?_)
    refine LW.add64 rfl rfl (by omega) (by omega) rfl ?_
    refine LW.go uG 2 rfl (LW.sr sz2 ?_)
    refine LW.go uG 8 rfl ?_
    refine NW.ret1 rfl rfl ⟨_,⟨by rw [hc44],rfl⟩,?_⟩
    (have h9:([slC q p (if e=0 then serial+1 else serial) (decide (e≠0))]:List Row)=[cr q 227 [ptr p,.int .i64 (serial+1),.bool false]]:=by rw [if_pos hc44,decide_eq_false (fun h=>h hc44)];rfl);rw [h9];exact Sub.app .t .s2
theorem slot_Make (p bn bw bl n:Nat)(s:DevS)(hs:s.Ok n)(h0:0<=(newestS s.N).1)(h1:(newestS s.N).1<=4611686018427387904)(ns:List Int)(hns:∀ n∈ns,I64 n)(h4:ns.length<=4)(src:List Row)(A:Option Addr)(cp:Nat)(hsrc:Src W B src A (ns.map i64v)) :
   Spec prog W B 69 [ptr p,.slice A ns.length cp] (src++devC p bn bw bl n s)
    (fun v post=>((setS n s (newestS s.N).1 ns).1=0/\∃ q,v=.tuple #[ptr q,.int .i64 0]/\post=src++([slC q p ((newestS s.N).1+1) false]++devC p bn bw bl n (setS n s (newestS s.N).1 ns).2)) \/
     ((setS n s (newestS s.N).1 ns).1≠0/\v=.tuple #[.pointer none,.int .i64 (setS n s (newestS s.N).1 ns).1]/\post=src++devC p bn bw bl n (setS n s (newestS s.N).1 ns).2)):=by
 have hnw:=slot_newest W B p bn bw bl n s hs
 generalize newestS s.N=x at hnw h0 h1 |-
 have hset:=fun q=>slot_Set W B q p bn bw bl n s hs x.1 h0 h1 ns hns h4 src A cp hsrc
 generalize setS n s x.1 ns=y at hset |-
 refine Spec.eG [src,devC p bn bw bl n s] func69 ntmps69 fun w0=>?_
 refine CW.go uG 12 rfl (LW.gtrF ?_)
 refine LW.go uG 7 rfl (LW.pn underlying45 ?_)
 refine LW.go uG 10 rfl (LW.bd [_] (#[ptr p,.int .i64 0,.bool false]) ?_)
 refine LW.bx ?_
 intro bb17
 refine LW.go uG 7 rfl (LW.cG (hnw) cl133 ?_)
 rintro _ _ ⟨v2,ch,rfl,ho,rfl⟩;refine LW.split2 ?_
 refine LW.go uG 5 rfl (LW.store rfl rfl .t (by simp [Value.cells]) sz2 (rfl) ?_)
 refine LW.go uG 7 rfl (LW.eT (hset bb17) cl92 .n3 ?_)
 refine LW.split2 (LW.split2p ?_)
 refine LW.go uG 6 rfl (LW.neq _ rfl rfl rfl rfl ?_)
 refine LW.go uG 2 rfl ?_
 refine CW.cond rfl (fun hc30=>?_) (fun hc30=>?_)
 . replace hc30:=bne_iff_ne.1 hc30
   try dsimp only at hc30
   refine CW.go uG 9 rfl ?_
   refine NW.ret2 rfl rfl rfl ⟨_,.inr ⟨hc30,rfl,rfl⟩,?_⟩
   exact Sub.app .t (Sub.one .t)
 . replace hc30:=bne_eq_false_iff_eq.1 hc30
   try dsimp only at hc30
   refine CW.go uG 10 rfl ?_
   refine NW.ret2 rfl rfl rfl ⟨_,.inl ⟨hc30,bb17,rfl,rfl⟩,?_⟩
   rw [if_pos hc30,decide_eq_false (fun h=>h hc30)];exact Sub.app .t .s2
theorem slot_Open (p bn bw bl n:Nat)(s:DevS)(hs:s.Ok n) :
   Spec prog W B 183 [ptr p] (devC p bn bw bl n s)
    (fun v post=>((newestS s.N).1=0/\v=.tuple #[.pointer none,.slice none 0 0,.int .i64 10]/\post=devC p bn bw bl n s) \/
     ((newestS s.N).1≠0/\∃ q v2 ch,v=.tuple #[ptr q,v2,.int .i64 0]/\OwnS 2 1 v2 (newestS s.N).2.length ((newestS s.N).2.map i64v) ch/\post=ch++([slC q p (newestS s.N).1 false]++devC p bn bw bl n s))):=by
 have hnw:=slot_newest W B p bn bw bl n s hs
 generalize newestS s.N=x at hnw |-
 refine Spec.eG [devC p bn bw bl n s] func183 ntmps183 fun w0=>?_
 refine CW.go uG 11 rfl (LW.pn underlying45 ?_)
 refine LW.go uG 8 rfl (LW.cG (hnw) cl133 ?_)
 rintro _ _ ⟨v2,ch,rfl,ho,rfl⟩;refine LW.split2 ?_
 refine LW.go uG 11 rfl (LW.eql _ rfl rfl rfl rfl ?_)
 refine LW.go uG 2 rfl ?_
 refine CW.cond rfl (fun hc15=>?_) (fun hc15=>?_)
 . replace hc15:=beq_iff_eq.1 hc15
   try dsimp only at hc15
   refine CW.go uG 9 rfl ?_
   refine NW.ret3 rfl rfl rfl rfl ⟨_,.inl ⟨hc15,rfl,rfl⟩,?_⟩
   exact Sub.one .t
 . replace hc15:=beq_eq_false_iff_ne.1 hc15
   try dsimp only at hc15
   refine CW.go uG 6 rfl (LW.bd [_,_] (#[ptr p,.int .i64 x.1,.bool false]) ?_)
   refine LW.bx ?_
   intro bb19
   refine LW.go uG 7 rfl ?_
   refine NW.ret3 rfl rfl rfl rfl ⟨_,.inr ⟨hc15,bb19,v2,ch,rfl,ho,rfl⟩,?_⟩
   exact Sub.app .t .s2
end
theorem getD_set {α:Type}(l:List α)(i j:Nat)(x d:α)(hi:i<l.length):(l.set i x).getD j d=if i=j then x else l.getD j d:=by
 by_cases h:i=j
 . subst h;simp [List.getD,hi]
 . simp [List.getD,h]
theorem kept_was (s:DevS)(L:List Nat)(keep:List Bool)(n i:Nat)(hn:s.now.length=n)(hL:∀ x∈L,x<n):∀ m,m<=L.length->(∃ k,k<m/\L[k]?=some i/\keep.getD k false=false)->(s.kept L keep m).getD i []=s.was.getD i []
 | 0,_,⟨_,h,_⟩=>by omega
 | m+1,hm,⟨k,hk,hLk,hkf⟩=>by
  have hlen:∀ q,q<=L.length->(s.kept L keep q).length=n:=by
    intro q
    induction q with
    | zero=>intro _;exact hn
    | succ q ih=>
      intro hq
      rw [DevS.kept_succ]
      split
      . exact ih (by omega)
      . rw [List.length_set];exact ih (by omega)
  have hg:L[m]?=some (L.getD m 0):=by simp [List.getD,List.getElem?_eq_getElem (show m<L.length by omega)]
  rw [DevS.kept_succ]
  by_cases hkm:k=m
  . subst hkm
    rw [if_neg (by rw [hkf];simp)]
    have hi:L.getD k 0=i:=by rw [hLk] at hg;exact (Option.some.inj hg).symm
    rw [hi,getD_set _ _ _ _ _ (by rw [hlen k (by omega)];exact hL i (List.mem_of_getElem? hLk)),if_pos rfl]
  . split
    . exact kept_was s L keep n i hn hL m (by omega) ⟨k,by omega,hLk,hkf⟩
    . rw [getD_set _ _ _ _ _ (by rw [hlen m (by omega)];exact hL _ (List.mem_of_getElem? hg))]
      split
      . rename_i h;rw [h]
      . exact kept_was s L keep n i hn hL m (by omega) ⟨k,by omega,hLk,hkf⟩
theorem kept_now (s:DevS)(L:List Nat)(keep:List Bool)(i:Nat):∀ m,m<=L.length->(∀ k,k<m->L[k]?=some i->keep.getD k false=true)->(s.kept L keep m).getD i []=s.now.getD i []
 | 0,_,_=>rfl
 | m+1,hm,h=>by
  have ih:=kept_now s L keep i m (by omega) (fun k hk=>h k (by omega))
  have hg:L[m]?=some (L.getD m 0):=by simp [List.getD,List.getElem?_eq_getElem (show m<L.length by omega)]
  rw [DevS.kept_succ]
  split
  . exact ih
  . rename_i hk
    have hne:L.getD m 0≠i:=fun he=>hk (h m (by omega) (by rw [hg,he]))
    rw [<- ih,List.getD_eq_getElem?_getD,List.getElem?_set_ne hne,<- List.getD_eq_getElem?_getD]
open Go.RowKit
def secsC (N:Nat->List UInt8)(i m:Nat):List UInt8:=((List.range m).map (fun k=>N (i+k))).flatten
theorem secsC_succ (N:Nat->List UInt8)(i m:Nat):secsC N i (m+1)=secsC N i m++N (i+m):=by simp [secsC,List.range_succ]
theorem secsC_len (N:Nat->List UInt8)(i:Nat):∀ m,(∀ k,k<m->(N (i+k)).length=64)->(secsC N i m).length=64*m
 | 0,_=>rfl
 | m+1,h=>by rw [secsC_succ,List.length_append,secsC_len N i m (fun k hk=>h k (by omega)),h m (by omega)];omega
def recB (b:List UInt8):List UInt8:=UInt8.ofNat b.length::UInt8.ofNat (b.length/256)::b
def recsB (l:List (List UInt8)):List UInt8:=(l.map recB).flatten
def recsGet:Nat->List UInt8->Option (List (List UInt8))
 | 0,_=>none
 | k+1,b=>
  if b.length=0 then some [] else if b.length<2 then none
  else if (b.getD 0 0).toNat+(b.getD 1 0).toNat*256<1\/1000<(b.getD 0 0).toNat+(b.getD 1 0).toNat*256\/b.length-2<(b.getD 0 0).toNat+(b.getD 1 0).toNat*256 then none
  else (recsGet k (b.drop (2+((b.getD 0 0).toNat+(b.getD 1 0).toNat*256)))).map (((b.drop 2).take ((b.getD 0 0).toNat+(b.getD 1 0).toNat*256))::·)
def okRec (b:List UInt8):Prop:=1<=b.length/\b.length<=1000
theorem recB_len (b:List UInt8):(recB b).length=b.length+2:=by simp [recB]
theorem recsB_cons (b:List UInt8)(l:List (List UInt8)):recsB (b::l)=recB b++recsB l:=by simp [recsB]
theorem recsB_app (l m:List (List UInt8)):recsB (l++m)=recsB l++recsB m:=by simp [recsB]
theorem recsB_one (b:List UInt8):recsB [b]=recB b:=by simp [recsB]
theorem recN (b r:List UInt8)(h:okRec b):((recB b++r).getD 0 0).toNat+((recB b++r).getD 1 0).toNat*256=b.length:=by
 have h1:=h.2
 simp only [recB,List.cons_append,List.getD_cons_zero,List.getD_cons_succ,UInt8.toNat_ofNat']
 omega
theorem recsGet_B:∀ (l:List (List UInt8)) (k:Nat),l.length<k->(∀ b∈l,okRec b)->recsGet k (recsB l)=some l
 | [],k+1,_,_=>by simp [recsGet,recsB]
 | [],0,h,_=>by simp at h
 | b::l,k+1,h,hl=>by
  have hb:=hl b (by simp)
  have ih:=recsGet_B l k (by simp at h;omega) (fun x hx=>hl x (by simp [hx]))
  have hN:=recN b (recsB l) hb
  have h1:=hb.1
  have h2:=hb.2
  have hlen:(recB b++recsB l).length=b.length+2+(recsB l).length:=by rw [List.length_append,recB_len]
  rw [recsB_cons,recsGet,hN,if_neg (by omega),if_neg (by omega),if_neg (by omega)]
  have hd:(recB b++recsB l).drop (2+b.length)=recsB l:=by
   rw [List.drop_append,List.drop_eq_nil_of_le (by rw [recB_len];omega),recB_len,show 2+b.length-(b.length+2)=0 by omega];simp
  have ht:((recB b++recsB l).drop 2).take b.length=b:=by simp [recB]
  rw [hd,ih,ht];rfl
 | _::_,0,h,_=>by simp at h
theorem recsGet_mono:∀ (k k':Nat) (b:List UInt8),b.length<k->b.length<k'->recsGet k b=recsGet k' b
 | 0,_,_,h,_=>by omega
 | _+1,0,_,_,h=>by omega
 | k+1,k'+1,b,h,h'=>by
  simp only [recsGet]
  split
  . rfl
  . split
    . rfl
    . split
      . rfl
      . rw [recsGet_mono k k' _ (by rw [List.length_drop];omega) (by rw [List.length_drop];omega)]
def recsOf (b:List UInt8):Option (List (List UInt8)):=recsGet (b.length+1) b
def recLen (b:List UInt8):Nat:=(b.getD 0 0).toNat+(b.getD 1 0).toNat*256
theorem recsOf_nil:recsOf []=some []:=by simp [recsOf,recsGet]
theorem recsOf_step {b:List UInt8}(h0:2<=b.length)(h1:1<=recLen b)(h2:recLen b<=1000)(h3:recLen b<=b.length-2):recsOf b=(recsOf (b.drop (2+recLen b))).map ((b.drop 2).take (recLen b)::·):=by
 unfold recsOf
 rw [recsGet,if_neg (by omega),if_neg (by omega)]
 unfold recLen at *
 rw [if_neg (by omega),recsGet_mono _ ((b.drop (2+((b.getD 0 0).toNat+(b.getD 1 0).toNat*256))).length+1) _ (by rw [List.length_drop];omega) (by omega)]
theorem recsOf_bad {b:List UInt8}(h0:b.length≠0)(h:b.length<2\/recLen b<1\/1000<recLen b\/b.length-2<recLen b):recsOf b=none:=by
 unfold recsOf
 rw [recsGet,if_neg h0]
 unfold recLen at h
 split
 . rfl
 . rw [if_pos (by omega)]
theorem recsOf_B (l:List (List UInt8))(hl:∀ b∈l,okRec b):recsOf (recsB l)=some l:=by
 have h1:l.length<=(recsB l).length:=by
  induction l with
  | nil=>simp
  | cons b r ih=>rw [recsB_cons,List.length_append,recB_len,List.length_cons];have:=ih (fun x hx=>hl x (by simp [hx]));omega
 exact recsGet_B l _ (by omega) hl
def bytesC (N:Nat->List UInt8)(m:Nat):List UInt8:=(secsC N 2 ((m+63)/64)).take m
def ringN (n:Nat):Nat:=(n/2-2)*64
def padS (b:List UInt8):List UInt8:=b.take 64++List.replicate (64-b.length) 0
def wrS (n:Nat):Nat->DevS->Nat->List UInt8->Int×DevS
 | 0,d,_,_=>(0,d)
 | k+1,d,i,b=>if b.length=0 then (0,d) else if d.err n (i:Int) 64=0 then wrS n k (d.write n (i:Int) (padS b)) (i+1) (b.drop 64) else (d.err n (i:Int) 64,d)
theorem padS_len (b:List UInt8):(padS b).length=64:=by simp [padS];omega
theorem wrS_mono (n:Nat):∀ (k k':Nat) (d:DevS) (i:Nat) (b:List UInt8),b.length<k->b.length<k'->wrS n k d i b=wrS n k' d i b
 | 0,_,_,_,_,h,_=>by omega
 | _+1,0,_,_,_,_,h=>by omega
 | k+1,k'+1,d,i,b,h,h'=>by
  simp only [wrS]
  split
  . rfl
  . split
    . exact wrS_mono n k k' _ _ _ (by rw [List.length_drop];omega) (by rw [List.length_drop];omega)
    . rfl
def wrO (n:Nat)(d:DevS)(i:Nat)(b:List UInt8):Int×DevS:=wrS n (b.length+1) d i b
theorem wrO_nil (n:Nat)(d:DevS)(i:Nat):wrO n d i []=(0,d):=by simp [wrO,wrS]
theorem wrO_ok {n:Nat}{d:DevS}{i:Nat}{b:List UInt8}(h0:b.length≠0)(he:d.err n (i:Int) 64=0):wrO n d i b=wrO n (d.write n (i:Int) (padS b)) (i+1) (b.drop 64):=by
 unfold wrO
 rw [wrS,if_neg h0,if_pos he,wrS_mono n _ ((b.drop 64).length+1) _ _ _ (by rw [List.length_drop];omega) (by omega)]
theorem wrO_no {n:Nat}{d:DevS}{i:Nat}{b:List UInt8}(h0:b.length≠0)(he:d.err n (i:Int) 64≠0):wrO n d i b=(d.err n (i:Int) 64,d):=by
 unfold wrO
 rw [wrS,if_neg h0,if_neg he]
def headW (d:DevS)(used:Nat)(b:List UInt8):List UInt8:=(d.N (2+used/64)).take (used % 64)++b
def writeL (n:Nat)(d:DevS)(used:Nat)(b:List UInt8):Int×DevS:=
 if (wrO n d (2+used/64) (headW d used b)).1=0 then ((wrO n d (2+used/64) (headW d used b)).2.flushE,(wrO n d (2+used/64) (headW d used b)).2.flush n) else wrO n d (2+used/64) (headW d used b)
structure LogV where
 area:Int
 length:Int
 used:Nat
 serial:Int
 lbad:Bool
 sbad:Bool
def setsL (n:Nat)(d:DevS)(L:LogV)(area length:Int)(used:Nat):Int×DevS×LogV:=
 if (setS n d L.serial [area,length,(used:Int)]).1=0 then (0,(setS n d L.serial [area,length,(used:Int)]).2,{ L with area:=area,length:=length,used:=used,serial:=L.serial+1 })
 else ((setS n d L.serial [area,length,(used:Int)]).1,(setS n d L.serial [area,length,(used:Int)]).2,{ L with sbad:=true })
def resetL (n:Nat)(d:DevS)(L:LogV)(area length:Int):Int×DevS×LogV:=
 ((setsL n d L area length 0).1,(setsL n d L area length 0).2.1,{ (setsL n d L area length 0).2.2 with lbad:=decide ((setsL n d L area length 0).1≠0) })
def appendL (n:Nat)(d:DevS)(L:LogV)(b:List UInt8):Int×DevS×LogV:=
 if b.length<1\/1000<b.length then (1,d,L)
 else if (ringN n:Int)-(L.used:Int)<((b.length+2:Nat):Int) then (5,d,L)
 else if (writeL n d L.used (recB b)).1=0 then
  ((setsL n (writeL n d L.used (recB b)).2 L L.area L.length (L.used+b.length+2)).1,(setsL n (writeL n d L.used (recB b)).2 L L.area L.length (L.used+b.length+2)).2.1,
   { (setsL n (writeL n d L.used (recB b)).2 L L.area L.length (L.used+b.length+2)).2.2 with lbad:=decide ((setsL n (writeL n d L.used (recB b)).2 L L.area L.length (L.used+b.length+2)).1≠0) })
 else ((writeL n d L.used (recB b)).1,(writeL n d L.used (recB b)).2,{ L with lbad:=true })
open Go.RowKit
def RecAt (W:World)(B:Nat)(ar:List Row)(v:Value)(bs:List UInt8):Prop:=∃ A cp,v=.slice A bs.length cp/\Src W B ar A (bs.map u8v)/\(A=none->bs.length=0)/\bs.length<=cp
theorem Src.more {W:World}{B:Nat}{r r':List Row}{A:Option Addr}{xs:List Value}(k:Src W B r A xs)(h:∀ x∈r,x∈r'):Src W B r' A xs:=by
 rcases k with h1 | ⟨a,h1,h2 | ⟨b,o,t,l,h3,h4,h5⟩⟩
 . exact .inl h1
 . exact .inr ⟨a,h1,.inl h2⟩
 . exact .inr ⟨a,h1,.inr ⟨b,o,t,l,h3,h _ h4,h5⟩⟩
theorem RecAt.more {W:World}{B:Nat}{r r':List Row}{v:Value}{bs:List UInt8}(k:RecAt W B r v bs)(h:∀ x∈r,x∈r'):RecAt W B r' v bs:=by
 obtain⟨A,cp,h1,h2,h3⟩:=k
 exact⟨A,cp,h1,h2.more h,h3⟩
theorem RecAt.own {W:World}{B:Nat}{v:Value}{bs:List UInt8}{ch:List Row}(o:OwnB v bs ch):RecAt W B ch v bs:=by
 obtain⟨A,cp,rfl,hA,hc⟩:=OwnS.val o
 exact⟨A,cp,rfl,OwnS.src o,hA,hc⟩
def RecsAt (W:World)(B:Nat)(ar:List Row)(vs:List Value)(l:List (List UInt8)):Prop:=vs.length=l.length/\∀ i,i<l.length->RecAt W B ar (vs.getD i undef) (l.getD i [])
theorem RecsAt.nil {W:World}{B:Nat}{ar:List Row}:RecsAt W B ar [] []:=⟨rfl,fun i hi=>by simp at hi⟩
theorem RecsAt.more {W:World}{B:Nat}{r r':List Row}{vs:List Value}{l:List (List UInt8)}(k:RecsAt W B r vs l)(h:∀ x∈r,x∈r'):RecsAt W B r' vs l:=⟨k.1,fun i hi=>(k.2 i hi).more h⟩
theorem RecsAt.app {W:World}{B:Nat}{r:List Row}{vs:List Value}{l:List (List UInt8)}(k:RecsAt W B r vs l){v:Value}{bs:List UInt8}(hv:RecAt W B r v bs):RecsAt W B r (vs++[v]) (l++[bs]):=by
 refine⟨by rw [List.length_append,List.length_append,k.1];rfl,fun j hj=>?_⟩
 rw [List.length_append] at hj
 rcases Nat.lt_or_ge j l.length with h | h
 . rw [List.getD_eq_getElem?_getD,List.getElem?_append_left (by rw [k.1];exact h),<- List.getD_eq_getElem?_getD,List.getD_eq_getElem?_getD (l:=l++[bs]),List.getElem?_append_left h,<- List.getD_eq_getElem?_getD]
   exact k.2 j h
 . obtain rfl:j=l.length:=by simp at hj;omega
   rw [List.getD_eq_getElem?_getD,List.getElem?_append_right (by rw [k.1];exact Nat.le_refl _),k.1,Nat.sub_self,List.getD_eq_getElem?_getD (l:=l++[bs]),List.getElem?_append_right (Nat.le_refl _),Nat.sub_self]
   exact hv
section
variable (W:World)(B:Nat)
theorem wal_ring (p bn bw bl n:Nat)(s:DevS)(h0:64<=n)(h1:n<=4096):Spec prog W B 44 [ptr p] (devC p bn bw bl n s) (fun v post=>v=.int .i64 (ringN n:Int)/\post=devC p bn bw bl n s):=by
 refine Spec.eG [devC p bn bw bl n s] func44 ntmps44 fun w0=>?_
 refine CW.go uG 8 rfl (LW.eG (dev_Sectors W B p bn bw bl n s) cl68 ?_)
 refine LW.quoN rfl rfl (by omega) (by omega) rfl ?_
 refine LW.sub64 rfl rfl (by omega) (by omega) rfl ?_
 refine LW.mul64 rfl rfl (by omega) (by omega) rfl ?_
 refine LW.go uG 4 rfl ?_
 refine NW.ret1 rfl rfl ⟨_,⟨by unfold ringN;congr 1;omega,rfl⟩,?_⟩
 exact Sub.one .t
theorem wal_bytes (p bn bw bl n:Nat)(s:DevS)(hs:s.Ok n)(m:Nat)(hm:m<=ringN n) :
   Spec prog W B 185 [ptr p,iN m] (devC p bn bw bl n s) (fun v post=>∃ ch,RecAt W B ch v (bytesC s.N m)/\post=ch++devC p bn bw bl n s):=by
 have hn0:=hs.n0
 have hn1:=hs.n1
 unfold ringN at hm
 have hNl:∀ i,i<n->(s.N i).length=64:=fun i hi=>hs.now.get (hs.now.getD hi)
 refine Spec.eG [devC p bn bw bl n s] func185 ntmps185 fun w0=>?_
 refine CW.go uG 17 rfl ?_
 refine CW.loopG (fun st:Nat×Value×List Row=>[(6,.int .i64 (2+(st.1:Int))),(5,st.2.1),(1,iN m),(0,ptr p)]) (fun st=>[st.2.2,devC p bn bw bl n s]) (fun st=>(st.1=0\/64*(st.1-1)<m)/\OwnB st.2.1 (secsC s.N 2 st.1) st.2.2) (fun st=>m+64-64*st.1) (0,.slice none 0 0,[]) (by exact⟨.inl rfl,OwnB.nil⟩) rfl (by repeat' constructor) ?_
 rintro⟨j,v,ch⟩ ⟨hj,ho⟩;dsimp only at hj ho;have hjl:(secsC s.N 2 j).length=64*j:=secsC_len _ _ _ (fun k hk=>hNl _ (by omega));obtain⟨A,cp,rfl,hA,hc⟩:=OwnS.val ho;rw [hjl] at hc |-
 try dsimp only
 refine CW.go uG 6 rfl (LW.lss _ rfl rfl rfl rfl ?_)
 refine LW.go uG 2 rfl ?_
 refine CW.cond rfl (fun hc12=>?_) (fun hc12=>?_)
 . replace hc12:=of_decide_eq_true hc12
   try dsimp only at hc12
   have hjm:64*j<m:=by omega
   have hN9:s.now.getD (2+j) []=s.N (2+j):=rfl
   have hl9:=hNl (2+j) (by omega)
   refine CW.go uG 8 rfl (LW.cG (dev_Read W B p bn bw bl n s hs (2+j) (by omega)) cl89 ?_)
   rw [hN9];rintro _ _ ⟨q1,rfl,rfl⟩;refine LW.split1 ?_
   refine LW.go uG 10 rfl (LW.append ((s.N (2+j)).map u8v) rfl rfl underlying65 underlying65 (.inr ⟨_,rfl⟩) info5 rfl ((by unfold OwnB at ho;rw [hjl] at ho;exact ho)) .t (fun _=>lenOf_slice _ _ _ _) (first_rd (RdAt.row .t zd) (by rw [List.length_map,hl9]) (fun h=>(by cases h))) (by rw [List.length_map,hl9]) (u8vs_one _) (by omega) (by omega) rfl ?_)
   intro v' ch' ho'
   refine LW.go uG 6 rfl (LW.add64 rfl rfl (by omega) (by omega) rfl ?_)
   exact LW.go uG 2 rfl (NW.mG ((j+1,v',ch')) (by exact⟨⟨.inr (by dsimp only;omega),by rw [secsC_succ];exact OwnB.app ho' hjl.symm hl9.symm⟩,by dsimp only;omega⟩))
 . replace hc12:=of_decide_eq_false hc12
   try dsimp only at hc12
   have hjm:m<=64*j:=by omega
   have hje:(m+63)/64=j:=by omega
   refine CW.go uG 2 rfl (NW.then_exit (NW.go uG 6 rfl (LW.cut (0) (m) (cp) none (some _) none rfl underlying65 szt5 (fun a hf=>rfl) (fun a hf=>congrArg some (hf.eval rfl)) (fun a hf=>rfl) (.inl ⟨rfl,rfl⟩) (.inr ⟨_,rfl⟩) (.inl ⟨rfl,rfl⟩) (by omega) (by omega) (by omega) (by omega) rfl ?_)))
   refine LW.go uG 4 rfl ?_
   refine NW.ret1 rfl rfl ⟨_,⟨ch,⟨_,_,by rw [cutA_zero',bytesC,hje,List.length_take,hjl,show min m (64*j)=m by omega];rfl,by rw [bytesC,hje,List.map_take];exact (OwnS.src ho).sub m,fun h=>by have:=hA h;rw [bytesC,List.length_take,hje];omega,by rw [bytesC,List.length_take];omega⟩,rfl⟩,?_⟩
   exact .s2
theorem or256 (a b:UInt8):bits .or .i64 (a.toNat:Int) ((b.toNat:Int)*256)=((a.toNat+b.toNat*256:Nat):Int):=by
 have h1:=a.toNat_lt
 have h2:=b.toNat_lt
 have h:=or_acc a.toNat b.toNat 1 (by simpa using h1) h2 (by omega)
 rw [wr64 (p:=(a.toNat:Int)) rfl (by omega) (by omega),wr64 (p:=(b.toNat:Int)*2 ^ (8*1)) (r:=(b.toNat:Int)*256) rfl (by omega) (by omega)] at h
 rw [h]
 exact wr64 (by simp) (by omega) (by omega)
set_option maxHeartbeats 1000000 in
theorem wal_records (src:List Row)(A:Option Addr)(cp:Nat)(bs:List UInt8)(hsrc:Src W B src A (bs.map u8v))(hbc:bs.length<=cp)(hb:bs.length<=1000000) :
   Spec prog W B 184 [.slice A bs.length cp] src
     (fun v post=>(recsOf bs=none/\v=.tuple #[.slice none 0 0,.bool false]/\post=src) \/
       (∃ rs v4 vs ch ar,recsOf bs=some rs/\v=.tuple #[v4,.bool true]/\OwnS 65 1 v4 rs.length vs ch/\RecsAt W B ar vs rs/\post=src++(ch++ar))):=by
 refine Spec.eG [src] func184 ntmps184 fun w0=>?_
 refine CW.go uG 13 rfl ?_
 refine CW.loopG (fun st:List UInt8×Value×Value×List Value×List (List UInt8)×List Row×List Row=>[(4,st.2.2.1),(0,st.2.1)]) (fun st=>[src,st.2.2.2.2.2.1,st.2.2.2.2.2.2]) (fun st=>RdS W B st.2.1 st.1 src/\OwnS 65 1 st.2.2.1 st.2.2.2.2.1.length st.2.2.2.1 st.2.2.2.2.2.1/\RecsAt W B st.2.2.2.2.2.2 st.2.2.2.1 st.2.2.2.2.1/\recsOf bs=(recsOf st.1).map (st.2.2.2.2.1++·)/\st.2.2.2.2.1.length+st.1.length<=bs.length) (fun st=>st.1.length) (bs,.slice A bs.length cp,.slice none 0 0,[],[],[],[]) (by exact⟨⟨A,cp,rfl,hbc,hsrc⟩,OwnS.nil,RecsAt.nil,by cases recsOf bs<;>simp,by simp⟩) rfl (by repeat' constructor) ?_
 rintro⟨b,v0,v4,vs,l,ch,ar⟩ ⟨hv0,ho,hrs,hrec,hlen⟩;dsimp only at hv0 ho hrs hrec hlen;obtain⟨A0,cp0,rfl,hc0,hs0⟩:=hv0
 try dsimp only
 refine CW.go uG 5 rfl (LW.gtr _ rfl rfl rfl rfl ?_)
 refine LW.go uG 2 rfl ?_
 refine CW.cond rfl (fun hc8=>?_) (fun hc8=>?_)
 . replace hc8:=of_decide_eq_true hc8
   try dsimp only at hc8
   have hbl:0<b.length:=by omega
   obtain⟨a0,rfl⟩:∃ a,A0=some a:=hs0.some (by rw [List.length_map];omega)
   refine CW.go uG 8 rfl (LW.lss _ rfl rfl rfl rfl ?_)
   refine LW.go uG 2 rfl ?_
   refine CW.cond rfl (fun hc11=>?_) (fun hc11=>?_)
   . replace hc11:=of_decide_eq_true hc11
     try dsimp only at hc11
     have hno:=recsOf_bad (by omega) (.inl (by omega:b.length<2))
     rw [hno,Option.map_none] at hrec
     refine CW.go uG 9 rfl (NW.then_ret ?_)
     refine NW.go uG 2 rfl ?_
     refine NW.ret2 rfl rfl rfl ⟨_,.inl ⟨hrec,rfl,rfl⟩,?_⟩
     exact Sub.one .t
   . replace hc11:=of_decide_eq_false hc11
     try dsimp only at hc11
     have hget:∀ i,i<b.length->(b.map u8v)[i]?=some (.int .u8 ((b.getD i 0).toNat:Int)):=fun i hi=>by simp [List.getD,List.getElem?_eq_getElem hi,u8v]
     have h9a:=(b.getD 0 0).toNat_lt
     have h9b:=(b.getD 1 0).toNat_lt
     refine CW.go uG 3 rfl (CW.quiet mixed (by kernel_rfl) ?_)
     refine QW.mv ?_
     refine QW.step (Yl.indexAt rfl rfl underlying65 ixs65 (by omega) (by omega)) rfl ?_
     refine QW.step (Yl.loadRd (v:=.int .u8 ((b.getD 0 0).toNat:Int)) rfl (hs0.rd .t) (hget 0 (by omega)) one5) rfl ?_
     refine QW.step (Yl.convInt (((b.getD 0 0).toNat:Int)) rfl underlying5 underlying3 w6) rfl ?_
     refine QW.mv ?_
     refine QW.step (Yl.indexAt rfl rfl underlying65 ixs65 (by omega) (by omega)) rfl ?_
     refine QW.step (Yl.loadRd (v:=.int .u8 ((b.getD 1 0).toNat:Int)) rfl (hs0.rd .t) (hget 1 (by omega)) one5) rfl ?_
     refine QW.step (Yl.convInt (((b.getD 1 0).toNat:Int)) rfl underlying5 underlying3 w6) rfl ?_
     refine QW.step (Yl.shl (((b.getD 1 0).toNat:Int)*256) rfl rfl (by omega) ((by rw [show min (8:Int).toNat IntKind.i64.bits=8 from rfl];exact wr64 rfl (by omega) (by omega)))) rfl ?_
     refine QW.step (Yl.or_ (((recLen b:Nat):Int)) rfl rfl (or256 _ _)) rfl ?_
     refine QW.step (Yl.assign rfl) rfl ?_
     refine QW.nil ?_
     refine NW.go uG 3 rfl ?_
     have hno:b.length<2\/recLen b<1\/1000<recLen b\/b.length-2<recLen b->recsOf b=none:=recsOf_bad (by omega)
     have hyes:=fun h1 h2 h3=>recsOf_step (b:=b) (by omega) h1 h2 h3
     generalize recLen b=k at hno hyes |-
     refine CW.go uG 2 rfl ?_
     by_cases hk1:k<1
     . refine LW.lssT ?_
       refine LW.go uG 15 rfl ?_
       rw [hno (by omega),Option.map_none] at hrec
       refine CW.go uG 8 rfl (NW.then_ret ?_)
       refine NW.go uG 2 rfl ?_
       refine NW.ret2 rfl rfl rfl ⟨_,.inl ⟨hrec,rfl,rfl⟩,?_⟩
       exact Sub.one .t
     . refine LW.lssF ?_
       refine LW.go uG 3 rfl ?_
       by_cases hk2:1000<k
       . refine LW.go uG 1 rfl (LW.gtrT ?_)
         refine LW.go uG 12 rfl ?_
         rw [hno (by omega),Option.map_none] at hrec
         refine CW.go uG 8 rfl (NW.then_ret ?_)
         refine NW.go uG 2 rfl ?_
         refine NW.ret2 rfl rfl rfl ⟨_,.inl ⟨hrec,rfl,rfl⟩,?_⟩
         exact Sub.one .t
       . refine LW.go uG 1 rfl (LW.gtrF ?_)
         refine LW.go uG 9 rfl (LW.sub64 rfl rfl (by omega) (by omega) rfl ?_)
         by_cases hk3:b.length-2<k
         . refine LW.go uG 1 rfl (LW.gtrT ?_)
           refine LW.go uG 5 rfl ?_
           rw [hno (by omega),Option.map_none] at hrec
           refine CW.go uG 8 rfl (NW.then_ret ?_)
           refine NW.go uG 2 rfl ?_
           refine NW.ret2 rfl rfl rfl ⟨_,.inl ⟨hrec,rfl,rfl⟩,?_⟩
           exact Sub.one .t
         . refine LW.go uG 1 rfl (LW.gtrF ?_)
           refine LW.go uG 7 rfl ?_
           rw [hyes (by omega) (by omega) (by omega),Option.map_map] at hrec
           have hs2:=Src.cutA' hs0 hc0 2 (by omega)
           have hs3:=(hs2.sub k)
           rw [<- List.map_take] at hs3
           have hl3:((b.drop 2).take k).length=k:=by rw [List.length_take,List.length_drop];omega
           refine CW.go uG 4 rfl (LW.add64 rfl rfl (by omega) (by omega) rfl ?_)
           refine LW.cut (2) (2+k) (cp0) (some _) (some _) none rfl underlying65 szt5 (fun a hf=>congrArg some (hf.eval rfl)) (fun a hf=>congrArg some (hf.eval rfl)) (fun a hf=>rfl) (.inr ⟨_,rfl⟩) (.inr ⟨_,rfl⟩) (.inl ⟨rfl,rfl⟩) (by omega) (by omega) (by omega) (by omega) rfl ?_
           rw [show 2+k-2=k by omega]
           refine LW.append (((b.drop 2).take k).map u8v) rfl rfl underlying65 underlying65 (.inr ⟨_,rfl⟩) info5 rfl (OwnB.nil) (Take.none _) (fun _=>lenOf_slice _ _ _ _) (first_rd (hs3.rd .t) (by rw [List.length_map,hl3,Nat.mul_one]) (fun h=>(by exfalso;have:=hs3.some (by rw [List.length_map];omega);obtain⟨x,hx⟩:=this;rw [hx] at h;cases h))) (by rw [List.length_map,hl3,Nat.mul_one]) (u8vs_one _) (by simp only [List.length_nil];omega) (by simp only [List.length_nil];omega) rfl ?_
           intro v5 ch5 ho5;replace ho5:=OwnB.app ho5 rfl hl3.symm;rw [List.nil_append] at ho5
           refine LW.buildSlice (vs:=[_]) ⟨rfl,trivial⟩ rfl (by intro v hv;simp at hv;subst hv;exact OwnS.one ho5) underlying210 info65 rfl (by decide) (by decide) rfl ?_
           intro bs41
           refine LW.append ([v5]) rfl rfl underlying210 underlying210 (.inr ⟨_,rfl⟩) info65 rfl (ho) .t (fun _=>lenOf_slice _ _ _ _) (first_rd (RdAt.row .t zd) rfl (fun h=>(by cases h))) (rfl) (by intro u hu;simp at hu;subst hu;exact OwnS.one ho5) (by omega) (by omega) rfl ?_
           intro v6 ch6 ho6
           refine LW.go uG 6 rfl (LW.add64 rfl rfl (by omega) (by omega) rfl ?_)
           refine LW.cut (2+k) (b.length) (cp0) (some _) none none rfl underlying65 szt5 (fun a hf=>congrArg some (hf.eval rfl)) (fun a hf=>rfl) (fun a hf=>rfl) (.inr ⟨_,rfl⟩) (.inl ⟨rfl,rfl,rfl⟩) (.inl ⟨rfl,rfl⟩) (by omega) (by omega) (by omega) (by omega) rfl ?_
           refine LW.go uG 3 rfl ?_
           refine NW.meet ((b.drop (2+k),.slice (cutA (some a0) cp0 (2+k) 1) (b.length-(2+k)) (cp0-(2+k)),v6,vs++[v5],l++[(b.drop 2).take k],ch6,ch5++ar)) ?j1 ?e1 ?h1
           case j1=>exact⟨⟨RdS.cut hs0 hc0 (2+k) (by omega),by rw [List.length_append];exact ho6,(hrs.more (fun x hx=>List.mem_append_right _ hx)).app ((RecAt.own ho5).more (fun x hx=>List.mem_append_left _ hx)),by rw [hrec];congr 1;funext x;simp,by dsimp only;rw [List.length_append,List.length_drop];simp;omega⟩,by dsimp only;rw [List.length_drop];omega⟩
           case e1=>repeat (first | exact Env.Le.nil _ | refine Env.Le.cons rfl ?_)
           case h1=>exact Sub.heap_cons .t (Sub.heap_cons .t (Sub.heap_cons .n2 (Sub.heap_nil _)))
 . replace hc8:=of_decide_eq_false hc8
   try dsimp only at hc8
   have hbl:b=[]:=List.eq_nil_of_length_eq_zero (by omega)
   subst hbl
   rw [recsOf_nil,Option.map_some,List.append_nil] at hrec
   refine CW.go uG 2 rfl (NW.then_exit (NW.go uG 10 rfl ?_))
   refine NW.ret2 rfl rfl rfl ⟨_,.inr ⟨l,v4,vs,ch,ar,hrec,rfl,ho,hrs,rfl⟩,?_⟩
   exact Sub.app .t .s2
end
open Go.RowKit
section
variable {P:Program}{n:Nat}{c:Ctx}{Q:Exit->Act->World->Prop}{e:Env}{h:Heap}{ops:Array Oper}{rest:List Oper}
theorem LW.appendFull {d ty t t2 el sz by_ m k:Nat}{pos:String}{af:Array Edge}{x y:Operand}{A:Option Addr}{u z:Value}{d2:TypeDesc}(xs ys:List Value)(hx:e.ev x=some (.slice A m m))(hy:e.ev y=some u)(ht:P.underlying t=some (.slice el))(ht2:P.underlying t2=some d2)(hd2:d2=.string\/∃ q,d2=.slice q)
  (hi:(P.info? el).map (fun i=>(i.zero,i.size,i.bytes))=some (some z,sz,by_)) (hzs:z.cells.size=sz) (hr:RdAt c h A xs) (hxl:xs.length=m*sz) (hA:A=none->m=0) (hlen:∀ w,(Builtin.lenOf u).run P w=.ok k w)
  (hfirst:∀ w',St c h w'->(Builtin.firstCells sz k u).run P w'=.ok ys.toArray w') (hyl:ys.length=k*sz) (hk:0<k) (h63:m+k<=9223372036854775807) (hb:(m+k)*by_<=140737488355328) (hd:Nat.blt d n=true)
  (kk:∀ v' ch',OwnS el sz v' (m+k) (xs++ys) ch'->LW P n c ops Q rest ((d,v')::e) (ch'::h)) :
  LW P n c ops Q (⟨some d,.call { callee:=.builtin .append,args:=#[x,y],argTypes:=#[t,t2] },ty,pos,af,none⟩::rest) e h:=
 LW.act hd fun a w hf s=>by
  obtain⟨i,hi',hz,rfl,rfl⟩:=info_parts hi
  have hcz:∀ q,(Builtin.zeroCells z.cells q).size=q*i.size:=fun q=>by simp [Builtin.zeroCells,hzs]
  have hcap:m+k<=grownCap w (m+k) m el:=cut_appendCap _ _ _ _
  have hrun:=run_append_new (P:=P) (w:=w) (ty:=ty) (base:=A) (m:=m) (cap:=m) (xs:=xs) ht ht2 hd2 hi' hz rfl rfl (hlen w) (hfirst _ s.drew) (run_firstCells_rd hr s.drew hxl (fun h0=>by rw [hA h0];simp)) (by omega) h63 (growslice_fits (by omega) hb)
  refine⟨.slice (some ⟨w.heap.size,0,none⟩) (m+k) (grownCap w (m+k) m el),_,w.drew.alloc (.cells (xs.toArray++ys.toArray++Builtin.zeroCells z.cells (grownCap w (m+k) m el-(m+k))) el),?_,s.drew.alloc _,?_⟩
  . simp only [execOp,resolve,invoke,builtin,List.map_toArray,List.map_cons,List.map_nil,hf.eval hx,hf.eval hy,Sem.run_bind,Sem.run_pure,Result.andThen_ok,hrun]
  . have hA':(xs.toArray++ys.toArray++Builtin.zeroCells z.cells (grownCap w (m+k) m el-(m+k)):Array Value)=(xs++ys++(Builtin.zeroCells z.cells (grownCap w (m+k) m el-(m+k))).toList).toArray:=by apply Array.ext';simp
    rw [hA']
    exact kk _ _ (.inr ⟨w.heap.size,_,(Builtin.zeroCells z.cells (grownCap w (m+k) m el-(m+k))).toList,rfl,by rw [List.length_append,hxl,hyl,Nat.add_mul],hcap,by simp [hcz],rfl⟩)
end
open Go.RowKit
def logR (l q p:Nat)(L:LogV):Row:=cr l 108 [ptr p,ptr q,.int .i64 L.area,.int .i64 L.length,iN L.used,.bool L.lbad]
theorem zeros64:(madeCells (Value.int .u8 0).cells (64*1)).toList=(List.replicate 64 (0:UInt8)).map u8v:=by
 rw [List.map_replicate]
 exact madeCells_rep _ _ _ (by intro x hx;simp [Value.cells] at hx;exact hx) (by simp [Value.cells])
theorem pad_row (r:List UInt8)(k:Nat)(hk:k=((r.take 64).map u8v).length):((List.replicate 64 (0:UInt8)).map u8v).take 0++(r.take 64).map u8v++((List.replicate 64 (0:UInt8)).map u8v).drop (0+k)=(padS r).map u8v:=by
 subst hk
 rw [List.take_zero,List.nil_append,Nat.zero_add,List.length_map,List.length_take,padS,List.map_append,List.map_replicate,List.drop_replicate,List.map_replicate]
 congr 2
 omega
theorem wrO_okDev (n:Nat):∀ (k:Nat) (d:DevS) (i:Nat) (b:List UInt8),d.Ok n->(wrS n k d i b).2.Ok n
 | 0,_,_,_,h=>h
 | k+1,d,i,b,h=>by
  rw [wrS]
  split
  . exact h
  . split
    . exact wrO_okDev n k _ _ _ (h.write _ _)
    . exact h
section
variable (W:World)(B:Nat)
set_option maxHeartbeats 1000000 in
theorem wal_write (l q p bn bw bl n:Nat)(s:DevS)(hs:s.Ok n)(L:LogV)(hu:L.used<ringN n)(b:List UInt8)(hb0:0<b.length)(hb:b.length<=100000)(src:List Row)(A:Option Addr)(cp:Nat)(hsrc:Src W B src A (b.map u8v)) :
   Spec prog W B 45 [ptr l,.slice A b.length cp] (src++([logR l q p L]++devC p bn bw bl n s))
     (fun v post=>v=.int .i64 (writeL n s L.used b).1/\post=src++([logR l q p L]++devC p bn bw bl n (writeL n s L.used b).2)):=by
 have hn0:=hs.n0
 have hn1:=hs.n1
 unfold ringN at hu
 have hin:2+L.used/64<n:=by omega
 have hNl:(s.N (2+L.used/64)).length=64:=hs.now.get (hs.now.getD hin)
 have hrd:=dev_Read W B p bn bw bl n s hs (2+L.used/64) hin
 rw [show s.now.getD (2+L.used/64) []=s.N (2+L.used/64) from rfl] at hrd
 have hwy:(wrO n s (2+L.used/64) (headW s L.used b)).1=0->writeL n s L.used b=((wrO n s (2+L.used/64) (headW s L.used b)).2.flushE,(wrO n s (2+L.used/64) (headW s L.used b)).2.flush n):=fun h=>by rw [writeL,if_pos h]
 have hwn:(wrO n s (2+L.used/64) (headW s L.used b)).1≠0->writeL n s L.used b=wrO n s (2+L.used/64) (headW s L.used b):=fun h=>by rw [writeL,if_neg h]
 have hh:headW s L.used b=(s.N (2+L.used/64)).take (L.used % 64)++b:=rfl
 have hhl:(headW s L.used b).length=L.used % 64+b.length:=by rw [hh,List.length_append,List.length_take,hNl];omega
 refine Spec.eG [src,[cr l 108 [ptr p,ptr q,.int .i64 L.area,.int .i64 L.length,iN L.used,.bool L.lbad]],devC p bn bw bl n s] func45 ntmps45 fun w0=>?_
 refine CW.go uG 6 rfl (CW.quiet mixed (by kernel_rfl) ?_)
 refine QW.mv ?_
 refine QW.step (Yl.nilPtr rfl) rfl ?_
 refine QW.step (Yl.fieldAddr _ rfl (fun _=>fa108_4 _ _ _)) rfl ?_
 refine QW.step (Yl.loadSt rfl .t rfl one3) rfl ?_
 refine QW.step (Yl.quo (((L.used/64:Nat):Int)) rfl rfl (by decide) ((by rw [tdivN (by omega) (by decide)];exact wr64 (by omega) (by omega) (by omega)))) rfl ?_
 refine QW.step (Yl.add (((2+L.used/64:Nat):Int)) rfl rfl (w4)) rfl ?_
 refine QW.mv ?_
 refine QW.step (Yl.nilPtr rfl) rfl ?_
 refine QW.step (Yl.fieldAddr _ rfl (fun _=>fa108_4 _ _ _)) rfl ?_
 refine QW.step (Yl.loadSt rfl .t rfl one3) rfl ?_
 refine QW.step (Yl.rem (((L.used % 64:Nat):Int)) rfl rfl (by decide) ((by rw [Int.tmod_eq_emod_of_nonneg (by omega)];omega))) rfl ?_
 refine QW.step (Yl.assign rfl) rfl ?_
 refine QW.step (Yl.assign rfl) rfl ?_
 refine QW.nil ?_
 refine NW.go uG 6 rfl (LW.ld one45 ?_)
 refine LW.go uG 1 rfl (LW.cG (hrd) cl89 ?_)
 rintro _ _ ⟨q1,rfl,rfl⟩;refine LW.split1 ?_
 refine LW.go uG 11 rfl (LW.neq false rfl rfl (rfl) rfl ?_)
 refine LW.go uG 10 rfl (LW.cut (0) (L.used % 64) (L.used % 64) none (some _) (some _) rfl underlying65 szt5 (fun a hf=>rfl) (fun a hf=>congrArg some (hf.eval rfl)) (fun a hf=>congrArg some (hf.eval rfl)) (.inl ⟨rfl,rfl⟩) (.inr ⟨_,rfl⟩) (.inr ⟨_,rfl⟩) (by omega) (by omega) (by omega) (by omega) rfl ?_)
 rw [cutA_zero']
 refine LW.go uG 1 rfl (LW.appendFull (((s.N (2+L.used/64)).take (L.used % 64)).map u8v) (b.map u8v) rfl rfl underlying65 underlying65 (.inr ⟨_,rfl⟩) info5 rfl (by rw [List.map_take];exact (RdAt.row .t zd:RdAt _ _ (some ⟨q1,0,none⟩) ((s.N (2+L.used/64)).map u8v)).sub _) (by rw [List.length_map,List.length_take,hNl];omega) (fun h=>by cases h) (fun _=>lenOf_slice _ _ _ _) (first_rd (hsrc.rd .t) (by simp) (fun h=>by exfalso;obtain⟨x,hx⟩:=hsrc.some (by rw [List.length_map];exact hb0);rw [hx] at h;cases h)) (by simp) hb0 (by omega) (by omega) rfl ?_)
 intro v4 ch4 ho4;rw [<- List.map_append,<- hh] at ho4
 have ho5:OwnB v4 (headW s L.used b) ch4:=by unfold OwnB;rw [hhl];exact ho4
 have hrd4:=RdS.of (W:=W) (B:=B) ho5
 refine LW.go uG 5 rfl ?_
 refine CW.loopG (fun st:List UInt8×Value×Nat×DevS=>[(5,iN st.2.2.1),(1,st.2.1),(0,ptr l)]) (fun st=>[ch4,src,[cr l 108 [ptr p,ptr q,.int .i64 L.area,.int .i64 L.length,iN L.used,.bool L.lbad]],devC p bn bw bl n st.2.2.2]) (fun st=>RdS W B st.2.1 st.1 ch4/\st.2.2.2.Ok n/\wrO n s (2+L.used/64) (headW s L.used b)=wrO n st.2.2.2 st.2.2.1 st.1/\st.2.2.1*64+st.1.length<=10000000/\st.1.length<=(headW s L.used b).length) (fun st=>st.1.length) (headW s L.used b,v4,2+L.used/64,s) (by exact⟨hrd4,hs,rfl,by dsimp only;omega,by dsimp only;omega⟩) rfl (by repeat' constructor) ?_
 rintro⟨r,v1,i,d⟩ ⟨hv1,hd,hwr,hib,hrl⟩;dsimp only at hv1 hd hwr hib hrl;obtain⟨A1,cp1,rfl,hc1,hs1⟩:=hv1
 try dsimp only
 refine CW.go uG 2 rfl ?_
 skip
 refine CW.go uG 3 rfl (LW.gtr _ rfl rfl rfl rfl ?_)
 refine LW.go uG 2 rfl ?_
 refine CW.cond rfl (fun hc42=>?_) (fun hc42=>?_)
 . replace hc42:=of_decide_eq_true hc42
   try dsimp only at hc42
   have hr0:r.length≠0:=by omega
   obtain⟨a1,rfl⟩:∃ a,A1=some a:=hs1.some (by rw [List.length_map];omega)
   have hpl:=padS_len r
   refine CW.go uG 6 rfl (LW.make (64) (64) ((List.replicate 64 (0:UInt8)).map u8v) rfl rfl (by first | rfl | omega) (by first | rfl | omega) underlying65 info5 (by omega) (by omega) (by omega) (zeros64) rfl ?_)
   intro bm45
   refine LW.go uG 8 rfl (LW.copy ((r.take 64).map u8v) ((padS r).map u8v) rfl rfl underlying65 szt5 .t (by rw [List.map_take];exact (hs1.rd .t).sub 64) (by rw [List.length_map,List.length_take];omega) (fun h=>(by cases h)) (by rw [List.length_map,List.length_take,List.length_map,List.length_replicate];omega) (u8vs_one _) (pad_row r _ rfl) rfl ?_)
   refine LW.cut (min r.length 64) (r.length) (cp1) (some _) none none rfl underlying65 szt5 (fun a hf=>congrArg some (hf.eval rfl)) (fun a hf=>rfl) (fun a hf=>rfl) (.inr ⟨_,rfl⟩) (.inl ⟨rfl,rfl,rfl⟩) (.inl ⟨rfl,rfl⟩) (by omega) (by omega) (by omega) (by omega) rfl ?_
   refine LW.go uG 8 rfl (LW.ld one45 ?_)
   refine LW.go uG 2 rfl ?_
   have hW:=dev_WriteG W B p bn bw bl n d hd (i:Int) [cr bm45 5 ((padS r).map u8v)] (some ⟨bm45,0,none⟩) 64 (padS r) (Src.row zd)
   rw [hpl] at hW
   refine LW.eT (hW) cl90 .n2 ?_
   refine LW.split2 ?_
   refine LW.go uG 6 rfl (LW.neq _ rfl rfl rfl rfl ?_)
   refine LW.go uG 2 rfl ?_
   refine CW.cond rfl (fun hc59=>?_) (fun hc59=>?_)
   . replace hc59:=bne_iff_ne.1 hc59
     try dsimp only at hc59
     have hfin:=hwn (by rw [hwr,wrO_no hr0 hc59];exact hc59)
     rw [hwr,wrO_no hr0 hc59] at hfin
     have hdw:d.write n (i:Int) (padS r)=d:=by rw [DevS.write,if_neg (by rw [hpl];exact hc59)]
     rw [hdw]
     refine CW.go uG 9 rfl (NW.then_ret ?_)
     refine NW.go uG 2 rfl ?_
     refine NW.ret1 rfl rfl ⟨_,⟨by rw [hfin],by rw [hfin]⟩,?_⟩
     exact Sub.app .t .s2
   . replace hc59:=bne_eq_false_iff_eq.1 hc59
     try dsimp only at hc59
     rw [wrO_ok hr0 hc59] at hwr
     refine CW.go uG 5 rfl (LW.add64 rfl rfl (by omega) (by omega) rfl ?_)
     refine LW.go uG 2 rfl ?_
     exact NW.meetG ((r.drop 64,.slice (cutA (some a1) cp1 (min r.length 64) 1) (r.length-min r.length 64) (cp1-min r.length 64),i+1,d.write n (i:Int) (padS r))) (by exact⟨⟨by
      have h9:=RdS.cut hs1 hc1 (min r.length 64) (by omega)
      have h8:r.drop (min r.length 64)=r.drop 64:=by
       rcases Nat.lt_or_ge r.length 64 with h | h
       . rw [show min r.length 64=r.length by omega,List.drop_length,List.drop_eq_nil_of_le (by omega)]
       . rw [show min r.length 64=64 by omega]
      rw [h8] at h9
      exact h9,hd.write _ _,hwr,by dsimp only;rw [List.length_drop];omega,by dsimp only;rw [List.length_drop];omega⟩,by dsimp only;rw [List.length_drop];omega⟩) rfl (by repeat' constructor)
 . replace hc42:=of_decide_eq_false hc42
   try dsimp only at hc42
   have hr0:r=[]:=List.eq_nil_of_length_eq_zero (by omega)
   subst hr0
   rw [wrO_nil] at hwr
   have hwy2:=hwy (by rw [hwr])
   rw [hwr] at hwy2
   refine CW.go uG 2 rfl (NW.then_exit (NW.go uG 7 rfl (LW.ld one45 ?_)))
   refine LW.eG (dev_Flush W B p bn bw bl n d hd) cl91 ?_
   refine LW.go uG 4 rfl ?_
   refine NW.ret1 rfl rfl ⟨_,⟨by rw [hwy2],by rw [hwy2]⟩,?_⟩
   exact Sub.app .t .s2
end
end Go.Proofs.YtnlpccoigflheaaGreatDoor
