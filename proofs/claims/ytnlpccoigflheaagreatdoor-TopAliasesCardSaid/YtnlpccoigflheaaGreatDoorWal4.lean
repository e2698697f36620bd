/- Wal3 Wal4 -/
import Derived.Test.YtnlpccoigflheaaGreatDoorWal2
import Derived.Test.YtnlpccoigflheaaGreatDoorFac
namespace Go.Proofs.YtnlpccoigflheaaGreatDoor
open Go.RowKit
open Go.Proofs.Tryz
def TuH:Tbl:=⟨[(108,1,1),(108,2,2),(108,3,3),(108,4,4),(108,5,5)],[],[65]⟩
theorem uH:TuH.Ok Tryz.prog:=.of (⟨⟨_,Tryz.underlying65⟩,trivial⟩)
def logC (l q p:Nat)(L:LogV):List Row:=[logR l q p L]++[slC q p L.serial L.sbad]
structure LogV.In (L:LogV):Prop where
 area:I64 L.area
 length:I64 L.length
 used:L.used<=1000000
 s0:0<=L.serial
 s1:L.serial<=4611686018427387904
theorem setsL_dev {n:Nat}{d:DevS}(hd:d.Ok n)(L:LogV)(a b:Int)(u:Nat):(setsL n d L a b u).2.1.Ok n:=by
 unfold setsL
 split<;>exact setS_ok hd _ _
theorem writeL_dev {n:Nat}{d:DevS}(hd:d.Ok n)(u:Nat)(b:List UInt8):(writeL n d u b).2.Ok n:=by
 unfold writeL
 split
 . exact (wrO_okDev n _ d _ _ hd).flush
 . exact wrO_okDev n _ d _ _ hd
theorem appendL_dev {n:Nat}{d:DevS}(hd:d.Ok n)(L:LogV)(b:List UInt8):(appendL n d L b).2.1.Ok n:=by
 unfold appendL
 split
 . exact hd
 . split
   . exact hd
   . split
     . exact setsL_dev (writeL_dev hd _ _) _ _ _ _
     . exact writeL_dev hd _ _
section
variable (W:World)(B:Nat)
theorem wal_sets (l q p bn bw bl n:Nat)(s:DevS)(hs:s.Ok n)(L:LogV)(hL:L.In)(hb:L.sbad=false)(area length:Int)(ha:I64 area)(hl:I64 length)(used:Nat)(hu:used<=1000000) :
   Spec prog W B 46 [ptr l,.int .i64 area,.int .i64 length,iN used] (logC l q p L++devC p bn bw bl n s)
    (fun v post=>v=.int .i64 (setsL n s L area length used).1/\post=logC l q p (setsL n s L area length used).2.2++devC p bn bw bl n (setsL n s L area length used).2.1):=by
 have hset:=fun src A cp hsrc=>slot_Set W B q p bn bw bl n s hs L.serial hL.s0 hL.s1 [area,length,(used:Int)] (by intro n hn;simp at hn;rcases hn with rfl | rfl | rfl;exact ha;exact hl;exact⟨by omega,by omega⟩) (by simp) src A cp hsrc
 have hy:(setS n s L.serial [area,length,(used:Int)]).1=0->setsL n s L area length used=(0,(setS n s L.serial [area,length,(used:Int)]).2,{ L with area:=area,length:=length,used:=used,serial:=L.serial+1 }):=fun h=>by rw [setsL,if_pos h]
 have hn:(setS n s L.serial [area,length,(used:Int)]).1≠0->setsL n s L area length used=((setS n s L.serial [area,length,(used:Int)]).1,(setS n s L.serial [area,length,(used:Int)]).2,{ L with sbad:=true }):=fun h=>by rw [setsL,if_neg h]
 generalize setS n s L.serial [area,length,(used:Int)]=y at hset hy hn
 refine Spec.eG [[cr l 108 [ptr p,ptr q,.int .i64 L.area,.int .i64 L.length,iN L.used,.bool L.lbad]],[slC q p L.serial L.sbad],devC p bn bw bl n s] func46 ntmps46 fun w0=>?_
 refine CW.go uH 6 rfl ?_
 rw [hb]
 refine CW.go uH 4 rfl (LW.ld one106 ?_)
 refine LW.go uH 3 rfl (LW.bs [_,_,_] underlying166 info2 ?_)
 intro bs17
 refine LW.eT (hset [cr bs17 2 [.int .i64 area,.int .i64 length,iN used]] (some ⟨bs17,0,none⟩) 3 (Src.row zd)) cl92 .n3 ?_
 refine LW.split2 (LW.split2p ?_)
 refine LW.go uH 7 rfl (LW.eql _ rfl rfl rfl rfl ?_)
 refine LW.go uH 2 rfl ?_
 refine CW.cond rfl (fun hc20=>?_) (fun hc20=>?_)
 . replace hc20:=beq_iff_eq.1 hc20
   try dsimp only at hc20
   replace hy:=hy hc20
   have hsl:slC q p (if y.1=0 then L.serial+1 else L.serial) (decide (y.1≠0))=slC q p (L.serial+1) L.sbad:=by rw [if_pos hc20,decide_eq_false (fun h=>h hc20),hb]
   rw [hsl]
   refine CW.go uH 9 rfl (LW.sr sz2 ?_)
   refine LW.go uH 2 rfl (LW.sr sz2 ?_)
   refine LW.go uH 2 rfl (LW.sr sz3 ?_)
   refine LW.go uH 9 rfl ?_
   refine NW.ret1 rfl rfl ⟨_,⟨by rw [hy,hc20],by rw [hy]⟩,?_⟩
   exact Sub.take (Take.both (p:=[_]) .t .t) (Sub.one .t)
 . replace hc20:=beq_eq_false_iff_ne.1 hc20
   try dsimp only at hc20
   replace hn:=hn hc20
   have hsl:slC q p (if y.1=0 then L.serial+1 else L.serial) (decide (y.1≠0))=slC q p L.serial true:=by rw [if_neg hc20,decide_eq_true hc20]
   rw [hsl]
   refine CW.go uH 9 rfl ?_
   refine NW.ret1 rfl rfl ⟨_,⟨by rw [hn],by rw [hn]⟩,?_⟩
   exact Sub.take (Take.both (p:=[_]) .t .t) (Sub.one .t)
theorem wal_Room (l q p bn bw bl n:Nat)(s:DevS)(h0:64<=n)(h1:n<=4096)(L:LogV)(hu:L.used<=1000000) :
  Spec prog W B 20 [ptr l] ([logR l q p L]++devC p bn bw bl n s) (fun v post=>v=.int .i64 ((ringN n:Int)-(L.used:Int))/\post=[logR l q p L]++devC p bn bw bl n s):=by
 have hr:ringN n<=262144:=by unfold ringN;omega
 refine Spec.eG [[cr l 108 [ptr p,ptr q,.int .i64 L.area,.int .i64 L.length,iN L.used,.bool L.lbad]],devC p bn bw bl n s] func20 ntmps20 fun w0=>?_
 refine CW.go uH 9 rfl (LW.pn underlying59 ?_)
 refine LW.go uH 6 rfl (CW.drawH [cr l 108 [ptr p,ptr q,.int .i64 L.area,.int .i64 L.length,iN L.used,.bool L.lbad]] mixed ?_)
 refine AW.ts [0,1,2,3,5,6,7,8] 3 (TW.mv ?_)
 refine TW.np ?_
 refine TW.fa fa108_0 ?_
 refine TW.ld one45 ?_
 refine TW.mv ?_
 refine TW.np ?_
 refine TW.fa fa108_4 ?_
 refine TW.ld one3 ?_
 refine TW.nil (AW.a 4 ?_)
 refine LW.eG (wal_ring W B p bn bw bl n s h0 h1) cl44 ?_
 refine LW.nil (AW.b (AW.ts [9,10] 0 (TW.take rfl (Yl.sub64 rfl rfl (by omega) (by omega)) rfl ?_)))
 refine TW.as ?_
 refine TW.nil (AW.d ?_)
 refine NW.go uH 2 rfl ?_
 refine NW.r1 ⟨_,⟨rfl,rfl⟩,?_⟩
 exact Sub.take (p:=[_]) .t (Sub.one .t)
theorem wal_Area (l q p:Nat)(L:LogV) :
  Spec prog W B 123 [ptr l] [logR l q p L] (fun v post=>v=.tuple #[.int .i64 L.area,.int .i64 L.length]/\post=[logR l q p L]):=by
 refine Spec.eG [[cr l 108 [ptr p,ptr q,.int .i64 L.area,.int .i64 L.length,iN L.used,.bool L.lbad]]] func123 ntmps123 fun w0=>?_
 refine CW.go uH 10 rfl (LW.pn underlying59 ?_)
 refine LW.go uH 6 rfl (CW.quiet mixed (by kernel_rfl) ?_)
 refine QW.mv ?_
 refine QW.step (Yl.nilPtr rfl) rfl ?_
 refine QW.step (Yl.fieldAddr _ rfl (fun _=>fa108_2 _ _ _)) rfl ?_
 refine QW.step (Yl.loadSt rfl .t rfl one2) rfl ?_
 refine QW.mv ?_
 refine QW.step (Yl.nilPtr rfl) rfl ?_
 refine QW.step (Yl.fieldAddr _ rfl (fun _=>fa108_3 _ _ _)) rfl ?_
 refine QW.step (Yl.loadSt rfl .t rfl one2) rfl ?_
 refine QW.step (Yl.assign rfl) rfl ?_
 refine QW.step (Yl.assign rfl) rfl ?_
 refine QW.nil ?_
 refine NW.go uH 2 rfl ?_
 refine NW.ret2 rfl rfl rfl ⟨_,⟨rfl,rfl⟩,?_⟩
 exact Sub.one .t
theorem wal_Reset (l q p bn bw bl n:Nat)(s:DevS)(hs:s.Ok n)(L:LogV)(hL:L.In)(hlb:L.lbad=false)(hb:L.sbad=false)(area length:Int)(ha:I64 area)(hl:I64 length) :
  Spec prog W B 392 [ptr l,.int .i64 area,.int .i64 length] (logC l q p L++devC p bn bw bl n s)
   (fun v post=>v=.int .i64 (resetL n s L area length).1/\post=logC l q p (resetL n s L area length).2.2++devC p bn bw bl n (resetL n s L area length).2.1):=by
 have hset:=wal_sets W B l q p bn bw bl n s hs L hL hb area length ha hl 0 (by omega)
 unfold resetL
 generalize setsL n s L area length 0=y at hset |-
 obtain⟨e,d,L'⟩:=y
 refine Spec.eG [[cr l 108 [ptr p,ptr q,.int .i64 L.area,.int .i64 L.length,iN L.used,.bool L.lbad]],[slC q p L.serial L.sbad],devC p bn bw bl n s] func392 ntmps392 fun w0=>?_
 refine CW.go uH 9 rfl (LW.pn underlying59 ?_)
 refine LW.go uH 8 rfl (LW.load (v:=.bool false) rfl .t (by rw [hlb];rfl) one4 rfl ?_)
 refine LW.go uH 11 rfl (LW.eT (hset) cl46 (Take.both (Take.both (p:=[_]) .t .t) .t) ?_)
 refine LW.split2 (LW.split2 ?_)
 refine LW.go uH 7 rfl (LW.neq (decide (e≠0)) rfl rfl (by by_cases h:e=0<;>simp [h]) rfl ?_)
 refine LW.go uH 2 rfl (LW.store rfl rfl .t (by exact (by decide:5<6)) sz4 (rfl) ?_)
 refine LW.go uH 9 rfl ?_
 refine NW.r1 ⟨_,⟨rfl,rfl⟩,?_⟩
 exact Sub.take (Take.both (p:=[_]) .t .t) (Sub.one .t)
theorem u8len (k:Nat):IntKind.u8.wrap (k:Int)=((UInt8.ofNat k).toNat:Int):=by
 rw [wrap_u8,UInt8.toNat_ofNat',UInt8.toNat_ofNat']
 omega
set_option maxHeartbeats 1000000 in
theorem wal_Append (l q p bn bw bl n:Nat)(s:DevS)(hs:s.Ok n)(L:LogV)(hL:L.In)(hlb:L.lbad=false)(hb:L.sbad=false)(b:List UInt8)(src:List Row)(A:Option Addr)(cp:Nat)(hbn:b.length<=1000000000)(hsrc:Src W B src A (b.map u8v)) :
   Spec prog W B 21 [ptr l,.slice A b.length cp] (src++(logC l q p L++devC p bn bw bl n s))
     (fun v post=>v=.int .i64 (appendL n s L b).1/\post=src++(logC l q p (appendL n s L b).2.2++devC p bn bw bl n (appendL n s L b).2.1)):=by
 have hn0:=hs.n0
 have hn1:=hs.n1
 have hu9:=hL.used
 have ha1:b.length<1\/1000<b.length->appendL n s L b=(1,s,L):=fun h=>by rw [appendL,if_pos h]
 have ha2:¬ (b.length<1\/1000<b.length)->(ringN n:Int)-(L.used:Int)<((b.length+2:Nat):Int)->appendL n s L b=(5,s,L):=fun h h'=>by rw [appendL,if_neg h,if_pos h']
 have ha3:¬ (b.length<1\/1000<b.length)->¬ (ringN n:Int)-(L.used:Int)<((b.length+2:Nat):Int)->(writeL n s L.used (recB b)).1=0->appendL n s L b=((setsL n (writeL n s L.used (recB b)).2 L L.area L.length (L.used+b.length+2)).1,(setsL n (writeL n s L.used (recB b)).2 L L.area L.length (L.used+b.length+2)).2.1,{ (setsL n (writeL n s L.used (recB b)).2 L L.area L.length (L.used+b.length+2)).2.2 with lbad:=decide ((setsL n (writeL n s L.used (recB b)).2 L L.area L.length (L.used+b.length+2)).1≠0) }):=fun h h' h''=>by rw [appendL,if_neg h,if_neg h',if_pos h'']
 have ha4:¬ (b.length<1\/1000<b.length)->¬ (ringN n:Int)-(L.used:Int)<((b.length+2:Nat):Int)->(writeL n s L.used (recB b)).1≠0->appendL n s L b=((writeL n s L.used (recB b)).1,(writeL n s L.used (recB b)).2,{ L with lbad:=true }):=fun h h' h''=>by rw [appendL,if_neg h,if_neg h',if_neg h'']
 have hrl:(recB b).length=b.length+2:=recB_len b
 refine Spec.eG [src,[cr l 108 [ptr p,ptr q,.int .i64 L.area,.int .i64 L.length,iN L.used,.bool L.lbad]],[slC q p L.serial L.sbad],devC p bn bw bl n s] func21 ntmps21 fun w0=>?_
 refine CW.go uH 10 rfl (LW.pn underlying59 ?_)
 refine LW.go uH 8 rfl (LW.load (v:=.bool false) rfl .t (by rw [hlb];rfl) one4 rfl ?_)
 refine LW.go uH 9 rfl ?_
 by_cases hb1:b.length<1
 . refine LW.lssT ?_
   refine LW.go uH 10 rfl ?_
   have hap:=ha1 (by omega)
   refine CW.go uH 7 rfl ?_
   refine NW.ret1 rfl rfl ⟨_,⟨by rw [hap],by rw [hap]⟩,?_⟩
   exact Sub.app .t (Sub.take (Take.both (p:=[_]) .t .t) (Sub.one .t))
 . refine LW.lssF ?_
   refine LW.go uH 5 rfl ?_
   by_cases hb2:1000<b.length
   . refine LW.go uH 1 rfl (LW.gtrT ?_)
     refine LW.go uH 6 rfl ?_
     have hap:=ha1 (by omega)
     refine CW.go uH 7 rfl ?_
     refine NW.ret1 rfl rfl ⟨_,⟨by rw [hap],by rw [hap]⟩,?_⟩
     exact Sub.app .t (Sub.take (Take.both (p:=[_]) .t .t) (Sub.one .t))
   . refine LW.go uH 1 rfl (LW.gtrF ?_)
     refine LW.go uH 6 rfl ?_
     replace ha2:=ha2 (by omega)
     replace ha3:=ha3 (by omega)
     replace ha4:=ha4 (by omega)
     refine CW.go uH 3 rfl (LW.add64 rfl rfl (by omega) (by omega) rfl ?_)
     refine LW.go uH 1 rfl (LW.eT (wal_Room W B l q p bn bw bl n s hn0 hn1 L hu9) cl20 .n2 ?_)
     refine LW.split2 ?_
     by_cases hroom:(ringN n:Int)-(L.used:Int)<((b.length+2:Nat):Int)
     . refine LW.gtrT ?_
       refine LW.go uH 5 rfl ?_
       have hap:=ha2 hroom
       refine CW.go uH 7 rfl ?_
       refine NW.ret1 rfl rfl ⟨_,⟨by rw [hap],by rw [hap]⟩,?_⟩
       exact Sub.app .t (Sub.take (Take.both (p:=[_]) .t .t) (Sub.one .t))
     . refine LW.gtrF ?_
       refine LW.go uH 8 rfl ?_
       replace ha3:=ha3 hroom
       replace ha4:=ha4 hroom
       have huse:L.used<ringN n:=by omega
       refine CW.go uH 4 rfl (LW.convInt (((UInt8.ofNat b.length).toNat:Int)) rfl underlying3 underlying5 (u8len _) rfl ?_)
       refine LW.go uH 2 rfl (LW.shr (((b.length/256:Nat):Int)) rfl rfl (by decide) ((by rw [show min (8:Int).toNat IntKind.i64.bits=8 from rfl,Int.fdiv_eq_ediv_of_nonneg _ (by decide)];omega)) rfl ?_)
       refine LW.convInt (((UInt8.ofNat (b.length/256)).toNat:Int)) rfl underlying3 underlying5 (u8len _) rfl ?_
       refine LW.bs [_,_] underlying65 info5 ?_
       intro bs39
       refine LW.go uH 1 rfl (LW.append (b.map u8v) rfl rfl underlying65 underlying65 (.inr ⟨_,rfl⟩) info5 rfl ((OwnS.row rfl:OwnS 5 1 (.slice (sA bs39) 2 2) 2 ([UInt8.ofNat b.length,UInt8.ofNat (b.length/256)].map u8v) [cr bs39 5 ([UInt8.ofNat b.length,UInt8.ofNat (b.length/256)].map u8v)])) .t (fun _=>lenOf_slice _ _ _ _) (first_rd (hsrc.rd .t) (by simp) (fun h=>by exfalso;obtain⟨x,hx⟩:=hsrc.some (by rw [List.length_map];omega);rw [hx] at h;cases h)) (by simp) (u8vs_one _) (by omega) (by omega) rfl ?_)
       intro v5 ch5 ho5;replace ho5:=OwnB.app ho5 rfl rfl;rw [show [UInt8.ofNat b.length,UInt8.ofNat (b.length/256)]++b=recB b from rfl] at ho5;obtain⟨A5,cp5,rfl,hA5,hc5⟩:=OwnS.val ho5
       refine LW.eT (wal_write W B l q p bn bw bl n s hs L huse (recB b) (by omega) (by omega) ch5 A5 cp5 (OwnS.src ho5)) cl45 .n3 ?_
       refine LW.split2 (LW.split2p ?_)
       refine LW.go uH 3 rfl ?_
       refine CW.cutG (fun st:Int×DevS×LogV=>[(5,.int .i64 st.1),(0,ptr l)]) (fun st=>[src,[cr l 108 [ptr p,ptr q,.int .i64 st.2.2.area,.int .i64 st.2.2.length,iN st.2.2.used,.bool st.2.2.lbad]],[slC q p st.2.2.serial st.2.2.sbad],devC p bn bw bl n st.2.1]) (fun st=>appendL n s L b=(st.1,st.2.1,{ st.2.2 with lbad:=decide (st.1≠0) })) ?cut10_1 ?cut10_2
       case cut10_1=>
        refine CW.go uH 1 rfl ?_
        have hdw:=writeL_dev hs L.used (recB b)
        generalize writeL n s L.used (recB b)=y at ha3 ha4 hdw |-
        obtain⟨e1,d1⟩:=y
        dsimp only at ha3 ha4 hdw
        refine CW.go uH 2 rfl (LW.eql _ rfl rfl rfl rfl ?_)
        refine LW.go uH 2 rfl ?_
        refine CW.cond rfl (fun hc44=>?_) (fun hc44=>?_)
        . replace hc44:=beq_iff_eq.1 hc44
          try dsimp only at hc44
          replace ha3:=ha3 hc44
          have hset:=wal_sets W B l q p bn bw bl n d1 hdw L hL hb L.area L.length hL.area hL.length (L.used+b.length+2) (by have:ringN n<=262144:=(by unfold ringN;omega);omega)
          generalize setsL n d1 L L.area L.length (L.used+b.length+2)=z at hset ha3
          obtain⟨e2,d2,L2⟩:=z
          dsimp only at ha3 hset
          refine CW.drawT [cr l 108 [ptr p,ptr q,.int .i64 L.area,.int .i64 L.length,iN L.used,.bool L.lbad]] 17 mixed ?_
          refine AT.ts [(0,none),(1,none),(2,none),(3,none),(4,some []),(5,none),(6,none),(7,none),(8,some []),(9,none),(10,none),(11,none),(12,some [15,16]),(13,none),(14,none),(15,none),(16,none)] 2 (TT.mv ?_)
          refine TT.mv ?_
          refine TT.np ?_
          refine TT.fa fa108_2 ?_
          refine TT.ld one2 ?_
          refine TT.mv ?_
          refine TT.np ?_
          refine TT.fa fa108_3 ?_
          refine TT.ld one2 ?_
          refine TT.mv ?_
          refine TT.np ?_
          refine TT.fa fa108_4 ?_
          refine TT.ld one3 ?_
          refine TT.mv ?_
          refine TT.take rfl (Yl.lenSlice rfl underlying65) rfl ?_
          refine TT.take rfl (Yl.add64 rfl rfl (by omega) (by omega)) rfl ?_
          refine TT.take rfl (Yl.add (((L.used+b.length+2:Nat):Int)) rfl rfl (w4)) rfl ?_
          refine TT.nil (AT.a 17 ?_)
          refine LW.eT (hset) cl46 (Take.both (Take.both (p:=[_]) .t .t) .t) ?_
          refine LW.split2 (LW.split2 ?_)
          refine LW.nil (AT.backK (by kernel_rfl) ?_)
          refine AT.takes [(18,none)] 0 (by kernel_rfl) (by kernel_rfl) rfl (by repeat (first | refine PO.qof ?_ | exact PO.body | refine PO.then_ ?_ | refine PO.block ?_ | refine PO.noGoto ?_)) (fun hl _ _=>(no_tf (by kernel_rfl) hl).elim) ?_
          refine TT.take rfl (Yl.assign rfl) rfl ?_
          refine TT.nil (AT.done (by kernel_rfl) ?_)
          exact NW.mG ((e2,d2,L2)) (by exact ha3)
        . replace hc44:=beq_eq_false_iff_ne.1 hc44
          try dsimp only at hc44
          replace ha4:=ha4 hc44
          exact CW.go uH 1 rfl (NW.mG ((e1,d1,L)) (by rw [ha4];simp [hc44]))
       case cut10_2=>
        rintro⟨e,d,L'⟩ hap;dsimp only at hap
        try dsimp only
        refine CW.go uH 4 rfl (LW.neq (decide (e≠0)) rfl rfl (by by_cases h:e=0<;>simp [h]) rfl ?_)
        refine LW.go uH 2 rfl (LW.sr sz4 ?_)
        refine LW.go uH 9 rfl ?_
        refine NW.ret1 rfl rfl ⟨_,⟨by rw [hap],by rw [hap]⟩,?_⟩
        exact Sub.app .t (Sub.take (Take.both (p:=[_]) .t .t) (Sub.one .t))
end
open Go.RowKit
structure OpenV where
 serial:Int
 area:Int
 length:Int
 used:Nat
 recs:List (List UInt8)
def openL (n:Nat)(N:Nat->List UInt8):Option OpenV:=
 match newestS N with
 | (s,[a,l,u])=>if s=0\/u<0\/(ringN n:Int)<u then none else (recsOf (bytesC N u.toNat)).map fun rs=>⟨s,a,l,u.toNat,rs⟩
 | _=>none
def OpenV.log (o:OpenV):LogV:=⟨o.area,o.length,o.used,o.serial,false,false⟩
section
variable (W:World)(B:Nat)
theorem wal_Make (p bn bw bl n:Nat)(s:DevS)(hs:s.Ok n)(h0:0<=(newestS s.N).1)(h1:(newestS s.N).1<=4611686018427387904) :
   Spec prog W B 26 [ptr p] (devC p bn bw bl n s)
    (fun v post=>((setS n s (newestS s.N).1 [0,0,0]).1=0/\∃ l q,v=.tuple #[ptr l,.int .i64 0]/\post=logC l q p ⟨0,0,0,(newestS s.N).1+1,false,false⟩++devC p bn bw bl n (setS n s (newestS s.N).1 [0,0,0]).2) \/
     ((setS n s (newestS s.N).1 [0,0,0]).1≠0/\v=.tuple #[.pointer none,.int .i64 (setS n s (newestS s.N).1 [0,0,0]).1]/\post=devC p bn bw bl n (setS n s (newestS s.N).1 [0,0,0]).2)):=by
 have hn0:=hs.n0
 have hmk:=fun src A cp hsrc=>slot_Make W B p bn bw bl n s hs h0 h1 [0,0,0] (by intro n hn;simp at hn;subst hn;exact⟨by decide,by decide⟩) (by decide) src A cp hsrc
 generalize setS n s (newestS s.N).1 [0,0,0]=y at hmk |-
 generalize (newestS s.N).1=x at hmk |-
 refine Spec.eG [devC p bn bw bl n s] func26 ntmps26 fun w0=>?_
 refine CW.go uH 11 rfl (LW.pn underlying45 ?_)
 refine LW.go uH 7 rfl (LW.eG (dev_Sectors W B p bn bw bl n s) cl68 ?_)
 refine LW.lssF ?_
 refine LW.go uH 10 rfl (LW.bs [_,_,_] underlying166 info2 ?_)
 intro bs15
 refine LW.cT (hmk [cr bs15 2 [.int .i64 0,.int .i64 0,.int .i64 0]] (some ⟨bs15,0,none⟩) 3 (Src.row zd)) cl69 .n2 ?_
 rintro v post hR
 rcases hR with ⟨he,q,rfl,rfl⟩ | ⟨he,rfl,rfl⟩<;>refine LW.split2 (LW.heap ?_ (Sub.refl _))
 . refine LW.go uH 1 rfl (LW.split2p ?_)
   refine LW.go uH 10 rfl (LW.neq false rfl rfl (rfl) rfl ?_)
   refine LW.go uH 9 rfl (LW.bd [_,_] (#[ptr p,ptr q,.int .i64 0,.int .i64 0,.int .i64 0,.bool false]) ?_)
   refine LW.bx ?_
   intro bb25
   refine LW.go uH 5 rfl ?_
   refine NW.ret2 rfl rfl rfl ⟨_,.inl ⟨he,bb25,q,rfl,rfl⟩,?_⟩
   exact Sub.take (Take.both (p:=[_]) .t .t) (Sub.one .t)
 . refine LW.go uH 11 rfl (LW.neq true rfl rfl (bne_iff_ne.2 he) rfl ?_)
   refine LW.go uH 12 rfl ?_
   refine NW.ret2 rfl rfl rfl ⟨_,.inr ⟨he,rfl,rfl⟩,?_⟩
   exact Sub.one .t
theorem openL_none0 {n:Nat}{N:Nat->List UInt8}(h:(newestS N).1=0):openL n N=none:=by
 unfold openL
 split
 . rename_i s a l u hq
   rw [hq] at h
   rw [if_pos (.inl h)]
 . rfl
theorem openL_len {n:Nat}{N:Nat->List UInt8}(h:(newestS N).2.length≠3):openL n N=none:=by
 unfold openL
 split
 . rename_i s a l u hq
   rw [hq] at h
   simp at h
 . rfl
theorem openL_three {n:Nat}{N:Nat->List UInt8}{s a l u:Int}(h:newestS N=(s,[a,l,u])):openL n N=if s=0\/u<0\/(ringN n:Int)<u then none else (recsOf (bytesC N u.toNat)).map fun rs=>⟨s,a,l,u.toNat,rs⟩:=by
 unfold openL
 rw [h]
set_option maxHeartbeats 1000000 in
theorem wal_Open (p bn bw bl n:Nat)(s:DevS)(hs:s.Ok n) :
   Spec prog W B 121 [ptr p] (devC p bn bw bl n s)
     (fun v post=>(openL n s.N=none/\v=.tuple #[.pointer none,.slice none 0 0,.int .i64 10]/\post=devC p bn bw bl n s) \/
       (∃ o l q v2 vs ch ar,openL n s.N=some o/\v=.tuple #[ptr l,v2,.int .i64 0]/\OwnS 65 1 v2 o.recs.length vs ch/\RecsAt W B ar vs o.recs/\post=ch++(ar++(logC l q p o.log++devC p bn bw bl n s)))):=by
 have hn0:=hs.n0
 have hn1:=hs.n1
 have hso:=slot_Open W B p bn bw bl n s hs
 have hz0:=openL_none0 (n:=n) (N:=s.N)
 have hz1:=openL_len (n:=n) (N:=s.N)
 have hz2:=fun a b c d=>openL_three (n:=n) (N:=s.N) (s:=a) (a:=b) (l:=c) (u:=d)
 have hrN:ringN n<=262144:=by unfold ringN;omega
 generalize newestS s.N=x at hso hz0 hz1 hz2
 obtain⟨s0,ns⟩:=x
 dsimp only at hso hz0 hz1
 refine Spec.eG [devC p bn bw bl n s] func121 ntmps121 fun w0=>?_
 refine CW.go uH 10 rfl (LW.cG (hso) cl183 ?_)
 rintro v post hR
 refine LW.go uH 1 rfl ?_
 rcases hR with ⟨he,rfl,rfl⟩ | ⟨he,q,v2,ch,rfl,ho,rfl⟩
 . refine LW.go uH 12 rfl (LW.neq true rfl rfl (rfl) rfl ?_)
   refine LW.go uH 13 rfl ?_
   refine NW.ret3 rfl rfl rfl rfl ⟨_,.inl ⟨hz0 he,rfl,rfl⟩,?_⟩
   exact Sub.one .t
 . refine LW.split2 (LW.split2p ?_)
   obtain⟨A2,cp2,rfl,hA2,hc2⟩:=OwnS.val ho
   have hsrc:=OwnS.src (W:=W) (B:=B) ho
   refine LW.go uH 12 rfl (LW.neq false rfl rfl (rfl) rfl ?_)
   refine LW.go uH 7 rfl (CW.quiet mixed (by kernel_rfl) ?_)
   refine QW.mv ?_
   refine QW.step (Yl.lenSlice rfl underlying166) rfl ?_
   by_cases hl3:ns.length=3
   . refine QW.step (Yl.neq false rfl rfl nF) rfl ?_
     refine QW.mv ?_
     refine QW.on 22 rfl rfl ?_
     obtain⟨a,l,u,rfl⟩:∃ a l u,ns=[a,l,u]:=by
       match ns,hl3 with
       | [a,l,u],_=>exact⟨a,l,u,rfl⟩
     replace hz2:=hz2 s0 a l u rfl
     obtain⟨ad,rfl⟩:∃ x,A2=some x:=hsrc.some (by simp)
     refine QW.mv ?_
     refine QW.on 22 rfl rfl ?_
     refine QW.step (Yl.indexAt rfl rfl underlying166 ixs166 (by omega) (by omega)) rfl ?_
     refine QW.on 22 rfl rfl ?_
     refine QW.step (Yl.loadRd (v:=.int .i64 u) rfl (hsrc.rd .t) (rfl) one2) rfl ?_
     by_cases hu0:u<0
     . refine QW.on 22 rfl rfl ?_
       refine QW.step (Yl.lss true rfl rfl dT) rfl ?_
       refine QW.step (Yl.pickF rfl rfl) rfl ?_
       refine QW.mv ?_
       refine QW.of 28 ?_
       refine QW.of 28 ?_
       refine QW.of 28 ?_
       refine QW.of 28 ?_
       refine QW.of 28 ?_
       refine QW.of 28 ?_
       refine QW.step (Yl.pickT rfl rfl) rfl ?_
       refine QW.nil ?_
       refine NW.go uH 11 rfl ?_
       refine NW.ret3 rfl rfl rfl rfl ⟨_,.inl ⟨by rw [hz2,if_pos (.inr (.inl hu0))],rfl,rfl⟩,?_⟩
       exact Sub.one .t
     . refine QW.on 22 rfl rfl ?_
       refine QW.step (Yl.lss false rfl rfl dF) rfl ?_
       refine QW.step (Yl.pickF rfl rfl) rfl ?_
       refine QW.mv ?_
       refine QW.on 28 rfl rfl ?_
       refine QW.mv ?_
       refine QW.on 28 rfl rfl ?_
       refine QW.step (Yl.indexAt rfl rfl underlying166 ixs166 (by omega) (by omega)) rfl ?_
       refine QW.on 28 rfl rfl ?_
       refine QW.step (Yl.loadRd (v:=.int .i64 u) rfl (hsrc.rd .t) (rfl) one2) rfl ?_
       refine QW.on 28 rfl rfl ?_
       refine QW.mv ?_
       refine QW.on 28 rfl rfl ?_
       refine QW.call (.int .i64 (ringN n:Int)) (wal_ring W B p bn bw bl n s hn0 hn1) func44 rfl fname44 ⟨rfl,trivial⟩ .t (by rintro u post ⟨rfl,rfl⟩;exact⟨rfl,Sub.refl _⟩) rfl ?_
       by_cases hur:(ringN n:Int)<u
       . refine QW.on 28 rfl rfl ?_
         refine QW.step (Yl.gtr true rfl rfl dT) rfl ?_
         refine QW.step (Yl.pickF rfl rfl) rfl ?_
         refine QW.nil ?_
         refine NW.go uH 11 rfl ?_
         refine NW.ret3 rfl rfl rfl rfl ⟨_,.inl ⟨by rw [hz2,if_pos (.inr (.inr hur))],rfl,rfl⟩,?_⟩
         exact Sub.one .t
       . refine QW.on 28 rfl rfl ?_
         refine QW.step (Yl.gtr false rfl rfl dF) rfl ?_
         refine QW.step (Yl.pickF rfl rfl) rfl ?_
         refine QW.nil ?_
         refine NW.go uH 5 rfl ?_
         obtain⟨m,rfl⟩:∃ m:Nat,u=(m:Int):=⟨u.toNat,by omega⟩
         rw [if_neg (by omega),Int.toNat_natCast] at hz2
         refine CW.go uH 3 rfl (LW.indexAt rfl rfl underlying166 ixs166 (by omega) (by omega) rfl ?_)
         refine LW.loadRd (v:=iN m) rfl (hsrc.rd .t) (rfl) one2 rfl ?_
         refine LW.cG (wal_bytes W B p bn bw bl n s hs m (by omega)) cl185 ?_
         rintro _ _ ⟨chb,⟨Ab,cpb,rfl,hsb,hAb,hcb⟩,rfl⟩;refine LW.split2 ?_
         refine LW.cG (wal_records W B chb Ab cpb (bytesC s.N m) hsb hcb (by have:(bytesC s.N m).length<=m:=(by rw [bytesC,List.length_take];omega);omega)) cl184 ?_
         rintro v post hR2
         refine LW.go uH 1 rfl ?_
         rcases hR2 with ⟨hr,rfl,rfl⟩ | ⟨rs,v4,vs,chr,ar,hr,rfl,ho4,hrs,rfl⟩
         . refine LW.go uH 10 rfl (LW.not (true) rfl (rfl) rfl ?_)
           refine LW.go uH 12 rfl ?_
           refine NW.ret3 rfl rfl rfl rfl ⟨_,.inl ⟨by rw [hz2,hr];rfl,rfl,rfl⟩,?_⟩
           exact Sub.one .t
         . refine LW.split2 (LW.split2p ?_)
           refine LW.go uH 10 rfl (LW.not (false) rfl (rfl) rfl ?_)
           refine LW.go uH 6 rfl (CW.drawH [] mixed ?_)
           refine AW.ts [0,1,2,3,5,6,8,9,13] 8 (TW.mv ?_)
           refine TW.mv ?_
           refine TW.mv ?_
           refine TW.take rfl (Yl.indexAt rfl rfl underlying166 ixs166 (by omega) (by omega)) rfl ?_
           refine TW.mv ?_
           refine TW.take rfl (Yl.indexAt rfl rfl underlying166 ixs166 (by omega) (by omega)) rfl ?_
           refine TW.mv ?_
           refine TW.take rfl (Yl.indexAt rfl rfl underlying166 ixs166 (by omega) (by omega)) rfl ?_
           refine TW.mv ?_
           refine TW.nil (AW.all [4,7,10] (by kernel_rfl) rfl ?_)
           refine AWs.cons rfl ?_ ?_
           . refine LW.loadRd (v:=.int .i64 a) rfl (hsrc.rd .t) (rfl) one2 rfl ?_
             refine LW.nil (AW.b (AW.all [7,10] (by kernel_rfl) rfl ?_))
             refine AWs.cons rfl ?_ ?_
             . refine LW.loadRd (v:=.int .i64 l) rfl (hsrc.rd .t) (rfl) one2 rfl ?_
               refine LW.nil (AW.b (AW.a 10 ?_))
               refine LW.loadRd (v:=iN m) rfl (hsrc.rd .t) (rfl) one2 rfl ?_
               refine LW.nil (AW.b (AW.ts [11] 4 (TW.take rfl (Yl.build (vs:=[_,_,_,_,_]) (#[ptr p,ptr q,.int .i64 a,.int .i64 l,iN m,.bool false]) ⟨rfl,rfl,rfl,rfl,rfl,trivial⟩ (by kernel_rfl)) rfl ?_)))
               refine TW.nil (AW.a 12 ?_)
               refine LW.bx ?_
               intro bb59
               refine LW.nil (AW.b (AW.ts [14,15,16] 0 (TW.as ?_)))
               refine TW.as ?_
               refine TW.as ?_
               refine TW.nil (AW.d ?_)
               refine NW.go uH 2 rfl ?_
               refine NW.ret3 rfl rfl rfl rfl ⟨_,.inr ⟨⟨s0,a,l,m,rs⟩,bb59,q,v4,vs,chr,ar,by rw [hz2,hr];rfl,rfl,ho4,hrs,rfl⟩,?_⟩
               exact Sub.app .t (Sub.app .t (Sub.take (Take.both (p:=[_]) .t .t) (Sub.one .t)))
             refine AWs.cons rfl ?_ ?_
             . refine LW.loadRd (v:=iN m) rfl (hsrc.rd .t) (rfl) one2 rfl ?_
               refine LW.nil (AW.b (AW.a 7 ?_))
               refine LW.loadRd (v:=.int .i64 l) rfl (hsrc.rd .t) (rfl) one2 rfl ?_
               refine LW.nil (AW.b (AW.ts [11] 4 (TW.take rfl (Yl.build (vs:=[_,_,_,_,_]) (#[ptr p,ptr q,.int .i64 a,.int .i64 l,iN m,.bool false]) ⟨rfl,rfl,rfl,rfl,rfl,trivial⟩ (by kernel_rfl)) rfl ?_)))
               refine TW.nil (AW.a 12 ?_)
               refine LW.bx ?_
               intro bb59
               refine LW.nil (AW.b (AW.ts [14,15,16] 0 (TW.as ?_)))
               refine TW.as ?_
               refine TW.as ?_
               refine TW.nil (AW.d ?_)
               refine NW.go uH 2 rfl ?_
               refine NW.ret3 rfl rfl rfl rfl ⟨_,.inr ⟨⟨s0,a,l,m,rs⟩,bb59,q,v4,vs,chr,ar,by rw [hz2,hr];rfl,rfl,ho4,hrs,rfl⟩,?_⟩
               exact Sub.app .t (Sub.app .t (Sub.take (Take.both (p:=[_]) .t .t) (Sub.one .t)))
             exact AWs.nil
           refine AWs.cons rfl ?_ ?_
           . refine LW.loadRd (v:=.int .i64 l) rfl (hsrc.rd .t) (rfl) one2 rfl ?_
             refine LW.nil (AW.b (AW.all [4,10] (by kernel_rfl) rfl ?_))
             refine AWs.cons rfl ?_ ?_
             . refine LW.loadRd (v:=.int .i64 a) rfl (hsrc.rd .t) (rfl) one2 rfl ?_
               refine LW.nil (AW.b (AW.a 10 ?_))
               refine LW.loadRd (v:=iN m) rfl (hsrc.rd .t) (rfl) one2 rfl ?_
               refine LW.nil (AW.b (AW.ts [11] 4 (TW.take rfl (Yl.build (vs:=[_,_,_,_,_]) (#[ptr p,ptr q,.int .i64 a,.int .i64 l,iN m,.bool false]) ⟨rfl,rfl,rfl,rfl,rfl,trivial⟩ (by kernel_rfl)) rfl ?_)))
               refine TW.nil (AW.a 12 ?_)
               refine LW.bx ?_
               intro bb59
               refine LW.nil (AW.b (AW.ts [14,15,16] 0 (TW.as ?_)))
               refine TW.as ?_
               refine TW.as ?_
               refine TW.nil (AW.d ?_)
               refine NW.go uH 2 rfl ?_
               refine NW.ret3 rfl rfl rfl rfl ⟨_,.inr ⟨⟨s0,a,l,m,rs⟩,bb59,q,v4,vs,chr,ar,by rw [hz2,hr];rfl,rfl,ho4,hrs,rfl⟩,?_⟩
               exact Sub.app .t (Sub.app .t (Sub.take (Take.both (p:=[_]) .t .t) (Sub.one .t)))
             refine AWs.cons rfl ?_ ?_
             . refine LW.loadRd (v:=iN m) rfl (hsrc.rd .t) (rfl) one2 rfl ?_
               refine LW.nil (AW.b (AW.a 4 ?_))
               refine LW.loadRd (v:=.int .i64 a) rfl (hsrc.rd .t) (rfl) one2 rfl ?_
               refine LW.nil (AW.b (AW.ts [11] 4 (TW.take rfl (Yl.build (vs:=[_,_,_,_,_]) (#[ptr p,ptr q,.int .i64 a,.int .i64 l,iN m,.bool false]) ⟨rfl,rfl,rfl,rfl,rfl,trivial⟩ (by kernel_rfl)) rfl ?_)))
               refine TW.nil (AW.a 12 ?_)
               refine LW.bx ?_
               intro bb59
               refine LW.nil (AW.b (AW.ts [14,15,16] 0 (TW.as ?_)))
               refine TW.as ?_
               refine TW.as ?_
               refine TW.nil (AW.d ?_)
               refine NW.go uH 2 rfl ?_
               refine NW.ret3 rfl rfl rfl rfl ⟨_,.inr ⟨⟨s0,a,l,m,rs⟩,bb59,q,v4,vs,chr,ar,by rw [hz2,hr];rfl,rfl,ho4,hrs,rfl⟩,?_⟩
               exact Sub.app .t (Sub.app .t (Sub.take (Take.both (p:=[_]) .t .t) (Sub.one .t)))
             exact AWs.nil
           refine AWs.cons rfl ?_ ?_
           . refine LW.loadRd (v:=iN m) rfl (hsrc.rd .t) (rfl) one2 rfl ?_
             refine LW.nil (AW.b (AW.all [4,7] (by kernel_rfl) rfl ?_))
             refine AWs.cons rfl ?_ ?_
             . refine LW.loadRd (v:=.int .i64 a) rfl (hsrc.rd .t) (rfl) one2 rfl ?_
               refine LW.nil (AW.b (AW.a 7 ?_))
               refine LW.loadRd (v:=.int .i64 l) rfl (hsrc.rd .t) (rfl) one2 rfl ?_
               refine LW.nil (AW.b (AW.ts [11] 4 (TW.take rfl (Yl.build (vs:=[_,_,_,_,_]) (#[ptr p,ptr q,.int .i64 a,.int .i64 l,iN m,.bool false]) ⟨rfl,rfl,rfl,rfl,rfl,trivial⟩ (by kernel_rfl)) rfl ?_)))
               refine TW.nil (AW.a 12 ?_)
               refine LW.bx ?_
               intro bb59
               refine LW.nil (AW.b (AW.ts [14,15,16] 0 (TW.as ?_)))
               refine TW.as ?_
               refine TW.as ?_
               refine TW.nil (AW.d ?_)
               refine NW.go uH 2 rfl ?_
               refine NW.ret3 rfl rfl rfl rfl ⟨_,.inr ⟨⟨s0,a,l,m,rs⟩,bb59,q,v4,vs,chr,ar,by rw [hz2,hr];rfl,rfl,ho4,hrs,rfl⟩,?_⟩
               exact Sub.app .t (Sub.app .t (Sub.take (Take.both (p:=[_]) .t .t) (Sub.one .t)))
             refine AWs.cons rfl ?_ ?_
             . refine LW.loadRd (v:=.int .i64 l) rfl (hsrc.rd .t) (rfl) one2 rfl ?_
               refine LW.nil (AW.b (AW.a 4 ?_))
               refine LW.loadRd (v:=.int .i64 a) rfl (hsrc.rd .t) (rfl) one2 rfl ?_
               refine LW.nil (AW.b (AW.ts [11] 4 (TW.take rfl (Yl.build (vs:=[_,_,_,_,_]) (#[ptr p,ptr q,.int .i64 a,.int .i64 l,iN m,.bool false]) ⟨rfl,rfl,rfl,rfl,rfl,trivial⟩ (by kernel_rfl)) rfl ?_)))
               refine TW.nil (AW.a 12 ?_)
               refine LW.bx ?_
               intro bb59
               refine LW.nil (AW.b (AW.ts [14,15,16] 0 (TW.as ?_)))
               refine TW.as ?_
               refine TW.as ?_
               refine TW.nil (AW.d ?_)
               refine NW.go uH 2 rfl ?_
               refine NW.ret3 rfl rfl rfl rfl ⟨_,.inr ⟨⟨s0,a,l,m,rs⟩,bb59,q,v4,vs,chr,ar,by rw [hz2,hr];rfl,rfl,ho4,hrs,rfl⟩,?_⟩
               exact Sub.app .t (Sub.app .t (Sub.take (Take.both (p:=[_]) .t .t) (Sub.one .t)))
             exact AWs.nil
           exact AWs.nil
   . refine QW.step (Yl.neq true rfl rfl nT) rfl ?_
     refine QW.mv ?_
     refine QW.of 22 ?_
     refine QW.of 22 ?_
     refine QW.of 22 ?_
     refine QW.of 22 ?_
     refine QW.step (Yl.pickT rfl rfl) rfl ?_
     refine QW.mv ?_
     refine QW.of 28 ?_
     refine QW.of 28 ?_
     refine QW.of 28 ?_
     refine QW.of 28 ?_
     refine QW.of 28 ?_
     refine QW.of 28 ?_
     refine QW.step (Yl.pickT rfl rfl) rfl ?_
     refine QW.nil ?_
     refine NW.go uH 11 rfl ?_
     refine NW.ret3 rfl rfl rfl rfl ⟨_,.inl ⟨hz1 hl3,rfl,rfl⟩,?_⟩
     exact Sub.one .t
end
end Go.Proofs.YtnlpccoigflheaaGreatDoor
