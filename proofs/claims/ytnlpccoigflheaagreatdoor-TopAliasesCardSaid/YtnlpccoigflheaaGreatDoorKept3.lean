/- Snap1 Kept Kept2 Kept3 -/
import Derived.Test.YtnlpccoigflheaaGreatDoorWal4
import Derived.Test.YtnlpccoigflheaaGreatDoorFac
namespace Go.Proofs.YtnlpccoigflheaaGreatDoor
open Go.RowKit
open Go.Proofs.Tryz
def TuI:Tbl:=⟨[],[],[65]⟩
theorem uI:TuI.Ok Tryz.prog:=.of (⟨⟨_,Tryz.underlying65⟩,trivial⟩)
def mostN (n:Nat):Nat:=n/4*64
def beginN (n a:Nat):Nat:=n/2+(a-1)*(n/4)
def areaC (N:Nat->List UInt8)(i m:Nat):List UInt8:=(secsC N i ((m+63)/64)).take m
def putTo (L:LogV):Nat:=if L.area=1 then 2 else 1
def putL (n:Nat)(d:DevS)(L:LogV)(t:List UInt8):Int×DevS×LogV:=
 if mostN n<t.length then (11,d,L)
 else if (wrO n d (beginN n (putTo L)) t).1≠0 then ((wrO n d (beginN n (putTo L)) t).1,(wrO n d (beginN n (putTo L)) t).2,L)
 else if (wrO n d (beginN n (putTo L)) t).2.flushE≠0 then ((wrO n d (beginN n (putTo L)) t).2.flushE,(wrO n d (beginN n (putTo L)) t).2.flush n,L)
 else resetL n ((wrO n d (beginN n (putTo L)) t).2.flush n) L (putTo L:Int) (t.length:Int)
def getL (n:Nat)(N:Nat->List UInt8)(L:LogV):Int×List UInt8:=
 if L.area=0 then (0,[]) else if L.area<0\/2<L.area\/L.length<0\/(mostN n:Int)<L.length then (10,[])
 else (0,areaC N (beginN n L.area.toNat) L.length.toNat)
section
variable (W:World)(B:Nat)
theorem snap_Most (p bn bw bl n:Nat)(s:DevS)(h1:n<=4096):Spec prog W B 186 [ptr p] (devC p bn bw bl n s) (fun v post=>v=.int .i64 (mostN n:Int)/\post=devC p bn bw bl n s):=by
 refine Spec.eG [devC p bn bw bl n s] func186 ntmps186 fun w0=>?_
 refine CW.go uI 8 rfl (LW.eG (dev_Sectors W B p bn bw bl n s) cl68 ?_)
 refine LW.quoN rfl rfl (by omega) (by omega) rfl ?_
 refine LW.mul64 rfl rfl (by omega) (by omega) rfl ?_
 refine LW.go uI 4 rfl ?_
 refine NW.ret1 rfl rfl ⟨_,⟨by unfold mostN;congr 1,rfl⟩,?_⟩
 exact Sub.one .t
theorem snap_begin (p bn bw bl n:Nat)(s:DevS)(h1:n<=4096)(a:Nat)(ha:a=1\/a=2):Spec prog W B 187 [ptr p,iN a] (devC p bn bw bl n s) (fun v post=>v=.int .i64 (beginN n a:Int)/\post=devC p bn bw bl n s):=by
 have h13:IntKind.i64.wrap (((a:Int)-1)*((n:Int)/4))=(((a-1)*(n/4):Nat):Int):=by
  rcases ha with rfl | rfl
  . exact wr64 (by omega) (by omega) (by omega)
  . exact wr64 (by omega) (by omega) (by omega)
 have h14:IntKind.i64.wrap ((n:Int)/2+(((a-1)*(n/4):Nat):Int))=(beginN n a:Int):=by
  unfold beginN
  rcases ha with rfl | rfl
  . exact wr64 (by omega) (by omega) (by omega)
  . exact wr64 (by omega) (by omega) (by omega)
 refine Spec.eG [devC p bn bw bl n s] func187 ntmps187 fun w0=>?_
 refine CW.go uI 8 rfl (LW.eG (dev_Sectors W B p bn bw bl n s) cl68 ?_)
 refine LW.quoN rfl rfl (by omega) (by omega) rfl ?_
 refine LW.go uI 1 rfl (LW.sub64 rfl rfl (by omega) (by omega) rfl ?_)
 refine LW.go uI 1 rfl (LW.eG (dev_Sectors W B p bn bw bl n s) cl68 ?_)
 refine LW.quoN rfl rfl (by omega) (by omega) rfl ?_
 refine LW.mul ((((a-1)*(n/4):Nat):Int)) rfl rfl (h13) rfl ?_
 refine LW.add ((beginN n a:Int)) rfl rfl (h14) rfl ?_
 refine LW.go uI 4 rfl ?_
 refine NW.r1 ⟨_,⟨rfl,rfl⟩,?_⟩
 exact Sub.one .t
set_option maxHeartbeats 1000000 in
theorem snap_Put (l q p bn bw bl n:Nat)(s:DevS)(hs:s.Ok n)(L:LogV)(hL:L.In)(hlb:L.lbad=false)(hsb:L.sbad=false)(t:List UInt8)(ht:t.length<=10000000)(src:List Row)(A:Option Addr)(cp:Nat)(hsrc:Src W B src A (t.map u8v))(hcp:t.length<=cp) :
   Spec prog W B 390 [ptr p,ptr l,.slice A t.length cp] (src++(logC l q p L++devC p bn bw bl n s))
    (fun v post=>v=.int .i64 (putL n s L t).1/\post=src++(logC l q p (putL n s L t).2.2++devC p bn bw bl n (putL n s L t).2.1)):=by
 have hn0:=hs.n0
 have hn1:=hs.n1
 have hp1:mostN n<t.length->putL n s L t=(11,s,L):=fun h=>by rw [putL,if_pos h]
 have hp2:¬ mostN n<t.length->(wrO n s (beginN n (putTo L)) t).1≠0->putL n s L t=((wrO n s (beginN n (putTo L)) t).1,(wrO n s (beginN n (putTo L)) t).2,L):=fun h h'=>by rw [putL,if_neg h,if_pos h']
 have hp3:¬ mostN n<t.length->(wrO n s (beginN n (putTo L)) t).1=0->(wrO n s (beginN n (putTo L)) t).2.flushE≠0->putL n s L t=((wrO n s (beginN n (putTo L)) t).2.flushE,(wrO n s (beginN n (putTo L)) t).2.flush n,L):=fun h h' h''=>by rw [putL,if_neg h,if_neg (fun k=>k h'),if_pos h'']
 have hp4:¬ mostN n<t.length->(wrO n s (beginN n (putTo L)) t).1=0->(wrO n s (beginN n (putTo L)) t).2.flushE=0->putL n s L t=resetL n ((wrO n s (beginN n (putTo L)) t).2.flush n) L (putTo L:Int) (t.length:Int):=fun h h' h''=>by rw [putL,if_neg h,if_neg (fun k=>k h'),if_neg (fun k=>k h'')]
 have hto:putTo L=1\/putTo L=2:=by unfold putTo;split<;>simp
 have htoy:L.area=1->putTo L=2:=fun h=>by rw [putTo,if_pos h]
 have hton:L.area≠1->putTo L=1:=fun h=>by rw [putTo,if_neg h]
 have hbg:beginN n (putTo L)<=10000:=by unfold beginN;rcases hto with h | h<;>rw [h]<;>omega
 refine Spec.eG [src,[logR l q p L],[slC q p L.serial L.sbad],devC p bn bw bl n s] func390 ntmps390 fun w0=>?_
 refine CW.go uI 12 rfl (LW.eG (snap_Most W B p bn bw bl n s hn1) cl186 ?_)
 by_cases hm:mostN n<t.length
 . refine LW.gtrT ?_
   refine LW.go uI 5 rfl ?_
   have hap:=hp1 hm
   refine CW.go uI 7 rfl ?_
   refine NW.ret1 rfl rfl ⟨_,⟨by rw [hap],by rw [hap]⟩,?_⟩
   exact Sub.app .t (Sub.take (Take.both (p:=[_]) .t .t) (Sub.one .t))
 . refine LW.gtrF ?_
   refine LW.go uI 7 rfl (LW.pn underlying45 ?_)
   refine LW.go uI 4 rfl (LW.pn underlying59 ?_)
   refine LW.go uI 9 rfl ?_
   replace hp2:=hp2 hm
   replace hp3:=hp3 hm
   replace hp4:=hp4 hm
   refine CW.go uI 2 rfl (LW.eG (wal_Area W B l q p L) cl123 ?_)
   refine LW.go uI 12 rfl ?_
   refine CW.cutG (fun _:Unit=>[(9,.int .i64 (putTo L:Int)),(0,ptr p),(1,ptr l),(2,.slice A t.length cp)]) (fun _=>[src,[logR l q p L],[slC q p L.serial L.sbad],devC p bn bw bl n s]) (fun _=>True) ?cut9_1 ?cut9_2
   case cut9_1=>
    refine CW.go uI 3 rfl (LW.eql _ rfl rfl rfl rfl ?_)
    refine LW.go uI 2 rfl ?_
    refine CW.cond rfl (fun hc34=>?_) (fun hc34=>?_)
    . replace hc34:=beq_iff_eq.1 hc34
      try dsimp only at hc34
      have hto2:=htoy hc34
      refine CW.go uI 3 rfl ?_
      rw [hto2]
      exact NW.mG (()) (by exact trivial)
    . replace hc34:=beq_eq_false_iff_ne.1 hc34
      try dsimp only at hc34
      have hto2:=hton hc34
      refine CW.go uI 1 rfl ?_
      rw [hto2]
      exact NW.mG (()) (by exact trivial)
   case cut9_2=>
    rintro⟨⟩ _
    try dsimp only
    refine CW.go uI 4 rfl (LW.eG (snap_begin W B p bn bw bl n s hn1 (putTo L) hto) cl187 ?_)
    refine LW.go uI 11 rfl ?_
    refine CW.loopG (fun st:List UInt8×Value×Nat×DevS=>[(11,st.2.1),(10,iN st.2.2.1),(9,.int .i64 (putTo L:Int)),(0,ptr p),(1,ptr l),(2,.slice A t.length cp)]) (fun st=>[src,[logR l q p L],[slC q p L.serial L.sbad],devC p bn bw bl n st.2.2.2]) (fun st=>RdS W B st.2.1 st.1 src/\st.2.2.2.Ok n/\wrO n s (beginN n (putTo L)) t=wrO n st.2.2.2 st.2.2.1 st.1/\st.2.2.1*64+st.1.length<=1000000000/\st.1.length<=t.length) (fun st=>st.1.length) (t,.slice A t.length cp,beginN n (putTo L),s) (by exact⟨⟨A,cp,rfl,hcp,hsrc⟩,hs,rfl,by dsimp only;omega,by dsimp only;omega⟩) rfl (by repeat' constructor) ?_
    rintro⟨r,v1,i,d⟩ ⟨hv1,hd,hwr,hib,hrl⟩;dsimp only at hv1 hd hwr hib hrl;obtain⟨A1,cp1,rfl,hc1,hs1⟩:=hv1
    try dsimp only
    refine CW.go uI 5 rfl (LW.gtr _ rfl rfl rfl rfl ?_)
    refine LW.go uI 2 rfl ?_
    refine CW.cond rfl (fun hc41=>?_) (fun hc41=>?_)
    . replace hc41:=of_decide_eq_true hc41
      try dsimp only at hc41
      have hr0:r.length≠0:=by omega
      obtain⟨a1,rfl⟩:∃ a,A1=some a:=hs1.some (by rw [List.length_map];omega)
      have hpl:=padS_len r
      refine CW.go uI 6 rfl (LW.make (64) (64) ((List.replicate 64 (0:UInt8)).map u8v) rfl rfl (by first | rfl | omega) (by first | rfl | omega) underlying65 info5 (by omega) (by omega) (by omega) (zeros64) rfl ?_)
      intro bm44
      refine LW.go uI 8 rfl (LW.copy ((r.take 64).map u8v) ((padS r).map u8v) rfl rfl underlying65 szt5 .t (by rw [List.map_take];exact (hs1.rd .t).sub 64) (by rw [List.length_map,List.length_take];omega) (fun h=>(by cases h)) (by rw [List.length_map,List.length_take,List.length_map,List.length_replicate];omega) (u8vs_one _) (pad_row r _ rfl) rfl ?_)
      refine LW.cut (min r.length 64) (r.length) (cp1) (some _) none none rfl underlying65 szt5 (fun a hf=>congrArg some (hf.eval rfl)) (fun a hf=>rfl) (fun a hf=>rfl) (.inr ⟨_,rfl⟩) (.inl ⟨rfl,rfl,rfl⟩) (.inl ⟨rfl,rfl⟩) (by omega) (by omega) (by omega) (by omega) rfl ?_
      refine LW.go uI 8 rfl ?_
      have hW:=dev_WriteG W B p bn bw bl n d hd (i:Int) [cr bm44 5 ((padS r).map u8v)] (some ⟨bm44,0,none⟩) 64 (padS r) (Src.row zd)
      rw [hpl] at hW
      refine LW.eT (hW) cl90 .n2 ?_
      refine LW.split2 ?_
      refine LW.go uI 6 rfl (LW.neq _ rfl rfl rfl rfl ?_)
      refine LW.go uI 2 rfl ?_
      refine CW.cond rfl (fun hc55=>?_) (fun hc55=>?_)
      . replace hc55:=bne_iff_ne.1 hc55
        try dsimp only at hc55
        have hap:=hp2 (by rw [hwr,wrO_no hr0 hc55];exact hc55)
        rw [hwr,wrO_no hr0 hc55] at hap
        have hdw:d.write n (i:Int) (padS r)=d:=by rw [DevS.write,if_neg (by rw [hpl];exact hc55)]
        rw [hdw]
        refine CW.go uI 9 rfl (NW.then_ret ?_)
        refine NW.go uI 2 rfl ?_
        refine NW.ret1 rfl rfl ⟨_,⟨by rw [hap],by rw [hap]⟩,?_⟩
        exact Sub.app .t (Sub.take (Take.both (p:=[_]) .t .t) (Sub.one .t))
      . replace hc55:=bne_eq_false_iff_eq.1 hc55
        try dsimp only at hc55
        rw [wrO_ok hr0 hc55] at hwr
        refine CW.go uI 5 rfl (LW.add64 rfl rfl (by omega) (by omega) rfl ?_)
        refine LW.go uI 2 rfl ?_
        exact NW.meetG ((r.drop 64,.slice (cutA (some a1) cp1 (min r.length 64) 1) (r.length-min r.length 64) (cp1-min r.length 64),i+1,d.write n (i:Int) (padS r))) (by exact⟨⟨by
         have h9:=RdS.cut hs1 hc1 (min r.length 64) (by omega)
         have h8:r.drop (min r.length 64)=r.drop 64:=by
          rcases Nat.lt_or_ge r.length 64 with h | h
          . rw [show min r.length 64=r.length by omega,List.drop_length,List.drop_eq_nil_of_le (by omega)]
          . rw [show min r.length 64=64 by omega]
         rw [h8] at h9
         exact h9,hd.write _ _,hwr,by dsimp only;rw [List.length_drop];omega,by dsimp only;rw [List.length_drop];omega⟩,by dsimp only;rw [List.length_drop];omega⟩) rfl (by repeat' constructor)
    . replace hc41:=of_decide_eq_false hc41
      try dsimp only at hc41
      have hr0:r=[]:=List.eq_nil_of_length_eq_zero (by omega)
      subst hr0
      rw [wrO_nil] at hwr
      rw [hwr] at hp3 hp4
      refine CW.go uI 2 rfl (NW.then_exit (NW.go uI 6 rfl (LW.eG (dev_Flush W B p bn bw bl n d hd) cl91 ?_)))
      refine LW.go uI 6 rfl (LW.neq _ rfl rfl rfl rfl ?_)
      refine LW.go uI 2 rfl ?_
      refine CW.cond rfl (fun hc60=>?_) (fun hc60=>?_)
      . replace hc60:=bne_iff_ne.1 hc60
        try dsimp only at hc60
        have hap:=hp3 rfl hc60
        refine CW.go uI 8 rfl ?_
        refine NW.ret1 rfl rfl ⟨_,⟨by rw [hap],by rw [hap]⟩,?_⟩
        exact Sub.app .t (Sub.take (Take.both (p:=[_]) .t .t) (Sub.one .t))
      . replace hc60:=bne_eq_false_iff_eq.1 hc60
        try dsimp only at hc60
        have hap:=hp4 rfl hc60
        refine CW.go uI 8 rfl (LW.eT (wal_Reset W B l q p bn bw bl n (d.flush n) hd.flush L hL hlb hsb (putTo L:Int) (t.length:Int) ⟨by omega,by omega⟩ ⟨by omega,by omega⟩) cl392 (Take.both (Take.both (p:=[_]) .t .t) .t) ?_)
        refine LW.split2 (LW.split2 ?_)
        refine LW.go uI 4 rfl ?_
        refine NW.ret1 rfl rfl ⟨_,⟨by rw [hap],by rw [hap]⟩,?_⟩
        exact Sub.app .t (Sub.take (Take.both (p:=[_]) .t .t) (Sub.one .t))
theorem snap_Get (l q p bn bw bl n:Nat)(s:DevS)(hs:s.Ok n)(L:LogV) :
   Spec prog W B 122 [ptr p,ptr l] ([logR l q p L]++devC p bn bw bl n s)
     (fun v post=>∃ v2 ch,v=.tuple #[v2,.int .i64 (getL n s.N L).1]/\RecAt W B ch v2 (getL n s.N L).2/\post=ch++([logR l q p L]++devC p bn bw bl n s)):=by
 have hn0:=hs.n0
 have hn1:=hs.n1
 have hg1:L.area=0->getL n s.N L=(0,[]):=fun h=>by rw [getL,if_pos h]
 have hg2:L.area≠0->(L.area<0\/2<L.area\/L.length<0\/(mostN n:Int)<L.length)->getL n s.N L=(10,[]):=fun h h'=>by rw [getL,if_neg h,if_pos h']
 have hg3:L.area≠0->¬ (L.area<0\/2<L.area\/L.length<0\/(mostN n:Int)<L.length)->getL n s.N L=(0,areaC s.N (beginN n L.area.toNat) L.length.toNat):=fun h h'=>by rw [getL,if_neg h,if_neg h']
 have hNl:∀ i,i<n->(s.N i).length=64:=fun i hi=>hs.now.get (hs.now.getD hi)
 have hnil:∀ ch,RecAt W B ch (.slice none 0 0) []:=fun ch=>⟨none,0,rfl,Src.nil,fun _=>rfl,Nat.le_refl _⟩
 refine Spec.eG [[logR l q p L],devC p bn bw bl n s] func122 ntmps122 fun w0=>?_
 refine CW.go uI 10 rfl (LW.pn underlying45 ?_)
 refine LW.go uI 4 rfl (LW.pn underlying59 ?_)
 refine LW.go uI 9 rfl (LW.eG (wal_Area W B l q p L) cl123 ?_)
 refine LW.go uI 11 rfl (LW.eql _ rfl rfl rfl rfl ?_)
 refine LW.go uI 2 rfl ?_
 refine CW.cond rfl (fun hc24=>?_) (fun hc24=>?_)
 . replace hc24:=beq_iff_eq.1 hc24
   try dsimp only at hc24
   have hap:=hg1 hc24
   refine CW.go uI 8 rfl ?_
   refine NW.ret2 rfl rfl rfl ⟨_,⟨.slice none 0 0,[],by rw [hap],by rw [hap];exact hnil _,rfl⟩,?_⟩
   exact Sub.app (Take.none _) .s2
 . replace hc24:=beq_eq_false_iff_ne.1 hc24
   try dsimp only at hc24
   replace hg2:=hg2 hc24
   replace hg3:=hg3 hc24
   refine CW.go uI 6 rfl ?_
   by_cases ha0:L.area<0
   . refine LW.lssT ?_
     refine LW.go uI 18 rfl ?_
     have hap:=hg2 (by omega)
     refine CW.go uI 7 rfl ?_
     refine NW.ret2 rfl rfl rfl ⟨_,⟨.slice none 0 0,[],by rw [hap],by rw [hap];exact hnil _,rfl⟩,?_⟩
     exact Sub.app (Take.none _) .s2
   . refine LW.lssF ?_
     refine LW.go uI 3 rfl ?_
     by_cases ha2:2<L.area
     . refine LW.go uI 1 rfl (LW.gtrT ?_)
       refine LW.go uI 15 rfl ?_
       have hap:=hg2 (by omega)
       refine CW.go uI 7 rfl ?_
       refine NW.ret2 rfl rfl rfl ⟨_,⟨.slice none 0 0,[],by rw [hap],by rw [hap];exact hnil _,rfl⟩,?_⟩
       exact Sub.app (Take.none _) .s2
     . refine LW.go uI 1 rfl (LW.gtrF ?_)
       refine LW.go uI 4 rfl ?_
       by_cases hl0:L.length<0
       . refine LW.go uI 1 rfl (LW.lssT ?_)
         refine LW.go uI 11 rfl ?_
         have hap:=hg2 (by omega)
         refine CW.go uI 7 rfl ?_
         refine NW.ret2 rfl rfl rfl ⟨_,⟨.slice none 0 0,[],by rw [hap],by rw [hap];exact hnil _,rfl⟩,?_⟩
         exact Sub.app (Take.none _) .s2
       . refine LW.go uI 1 rfl (LW.lssF ?_)
         refine LW.go uI 7 rfl (LW.eG (snap_Most W B p bn bw bl n s hn1) cl186 ?_)
         by_cases hlm:(mostN n:Int)<L.length
         . refine LW.go uI 1 rfl (LW.gtrT ?_)
           refine LW.go uI 5 rfl ?_
           have hap:=hg2 (by omega)
           refine CW.go uI 7 rfl ?_
           refine NW.ret2 rfl rfl rfl ⟨_,⟨.slice none 0 0,[],by rw [hap],by rw [hap];exact hnil _,rfl⟩,?_⟩
           exact Sub.app (Take.none _) .s2
         . refine LW.go uI 1 rfl (LW.gtrF ?_)
           refine LW.go uI 7 rfl ?_
           have hap:=hg3 (by omega)
           obtain⟨a,ha⟩:∃ a:Nat,L.area=(a:Int):=⟨L.area.toNat,by omega⟩
           obtain⟨m,hm⟩:∃ m:Nat,L.length=(m:Int):=⟨L.length.toNat,by omega⟩
           rw [ha,hm,Int.toNat_natCast,Int.toNat_natCast] at hap
           rw [ha,hm]
           have ha12:a=1\/a=2:=by omega
           have hmn:m<=mostN n:=by omega
           have hbe:beginN n a+(m+63)/64<=n:=by unfold beginN;unfold mostN at hmn;rcases ha12 with h | h<;>rw [h]<;>omega
           refine CW.go uI 9 rfl (LW.eG (snap_begin W B p bn bw bl n s hn1 a ha12) cl187 ?_)
           refine LW.go uI 4 rfl ?_
           refine CW.loopG (fun st:Nat×Value×List Row=>[(9,.int .i64 ((beginN n a+st.1:Nat):Int)),(8,st.2.1),(7,iN m),(0,ptr p)]) (fun st=>[st.2.2,[logR l q p L],devC p bn bw bl n s]) (fun st=>(st.1=0\/64*(st.1-1)<m)/\OwnB st.2.1 (secsC s.N (beginN n a) st.1) st.2.2) (fun st=>m+64-64*st.1) (0,.slice none 0 0,[]) (by exact⟨.inl rfl,OwnB.nil⟩) rfl (by repeat' constructor) ?_
           rintro⟨j,v,ch⟩ ⟨hj,ho⟩;dsimp only at hj ho;have hjl:(secsC s.N (beginN n a) j).length=64*j:=secsC_len _ _ _ (fun k hk=>hNl _ (by omega));obtain⟨A,cp,rfl,hA,hc⟩:=OwnS.val ho;rw [hjl] at hc |-
           try dsimp only
           refine CW.go uI 2 rfl ?_
           skip
           refine CW.go uI 4 rfl (LW.lss _ rfl rfl rfl rfl ?_)
           refine LW.go uI 2 rfl ?_
           refine CW.cond rfl (fun hc47=>?_) (fun hc47=>?_)
           . replace hc47:=of_decide_eq_true hc47
             try dsimp only at hc47
             have hjm:64*j<m:=by omega
             have hN9:s.now.getD (beginN n a+j) []=s.N (beginN n a+j):=rfl
             have hl9:=hNl (beginN n a+j) (by omega)
             refine CW.go uI 8 rfl (LW.cG (dev_Read W B p bn bw bl n s hs (beginN n a+j) (by omega)) cl89 ?_)
             rw [hN9];rintro _ _ ⟨q1,rfl,rfl⟩;refine LW.split1 ?_
             refine LW.go uI 11 rfl (LW.neq false rfl rfl (rfl) rfl ?_)
             refine LW.go uI 8 rfl (LW.append ((s.N (beginN n a+j)).map u8v) rfl rfl underlying65 underlying65 (.inr ⟨_,rfl⟩) info5 rfl ((by unfold OwnB at ho;rw [hjl] at ho;exact ho)) .t (fun _=>lenOf_slice _ _ _ _) (first_rd (RdAt.row .t zd) (by rw [List.length_map,hl9]) (fun h=>(by cases h))) (by rw [List.length_map,hl9]) (u8vs_one _) (by omega) (by omega) rfl ?_)
             intro v' ch' ho'
             refine LW.go uI 6 rfl (LW.add (((beginN n a+(j+1):Nat):Int)) rfl rfl (w4) rfl ?_)
             exact LW.go uI 2 rfl (NW.mG ((j+1,v',ch')) (by exact⟨⟨.inr (by dsimp only;omega),by rw [secsC_succ];exact OwnB.app ho' hjl.symm hl9.symm⟩,by dsimp only;omega⟩))
           . replace hc47:=of_decide_eq_false hc47
             try dsimp only at hc47
             have hjm:m<=64*j:=by omega
             have hje:(m+63)/64=j:=by omega
             refine CW.go uI 2 rfl (NW.then_exit (NW.go uI 6 rfl (LW.cut (0) (m) (cp) none (some _) none rfl underlying65 szt5 (fun a hf=>rfl) (fun a hf=>congrArg some (hf.eval rfl)) (fun a hf=>rfl) (.inl ⟨rfl,rfl⟩) (.inr ⟨_,rfl⟩) (.inl ⟨rfl,rfl⟩) (by omega) (by omega) (by omega) (by omega) rfl ?_)))
             refine LW.go uI 5 rfl ?_
             refine NW.ret2 rfl rfl rfl ⟨_,⟨_,ch,by rw [hap],by rw [hap];exact⟨A,cp-0,by rw [cutA_zero',areaC,hje,List.length_take,hjl,show min m (64*j)=m by omega];rfl,by rw [areaC,hje,List.map_take];exact (OwnS.src ho).sub m,fun h=>by have:=hA h;rw [areaC,List.length_take,hje];omega,by rw [areaC,List.length_take];omega⟩,rfl⟩,?_⟩
             exact .s3
end
open Go.RowKit
def Mix (n:Nat)(d:DevS)(X:Nat->List UInt8):Prop:=∀ i,i<n->X i=d.N i\/X i=d.V i
def Hold (n:Nat)(d:DevS)(P:(Nat->List UInt8)->Prop):Prop:=∀ X,Mix n d X->P X
def Flat (d:DevS):Prop:=d.was=d.now
def Up (d:DevS):Prop:=d.down=false/\d.fused=false
theorem Mix.self (n:Nat)(d:DevS):Mix n d d.N:=fun _ _=>.inl rfl
theorem Flat.V {d:DevS}(h:Flat d)(i:Nat):d.V i=d.N i:=by unfold DevS.V DevS.N;rw [show d.was=d.now from h]
theorem burn_N (d:DevS):d.burn.N=d.N:=by unfold DevS.burn;split<;>rfl
theorem burn_V (d:DevS):d.burn.V=d.V:=by unfold DevS.burn;split<;>rfl
theorem err_two {n:Nat}{d:DevS}{i:Nat}(hi:i<n):d.err n (i:Int) 64=if d.down=true then 9 else 0:=by
 unfold DevS.err isB
 cases d.down<;>simp [hi]
theorem write_same {n:Nat}{d:DevS}{i:Nat}{b:List UInt8}(hb:b.length=64)(he:d.err n (i:Int) 64≠0):d.write n (i:Int) b=d:=by rw [DevS.write,if_neg (by rw [hb];exact he)]
theorem write_V {n:Nat}{d:DevS}{i:Nat}{b:List UInt8}:(d.write n (i:Int) b).V=d.V:=by
 unfold DevS.write
 split
 . rw [burn_V];rfl
 . rfl
theorem write_N {n:Nat}{d:DevS}(hd:d.Ok n){i:Nat}{b:List UInt8}(hb:b.length=64)(hi:i<n)(he:d.err n (i:Int) 64=0)(j:Nat):(d.write n (i:Int) b).N j=if i=j then b else d.N j:=by
 rw [DevS.write,if_pos (by rw [hb];exact he),burn_N,Int.toNat_natCast]
 show (d.now.set i b).getD j []=_
 exact getD_set _ _ _ _ _ (by rw [hd.now.1];exact hi)
theorem flush_N {n:Nat}{d:DevS}:(d.flush n).N=d.N:=by
 unfold DevS.flush
 split
 . rfl
 . rw [burn_N];rfl
theorem flush_flat {n:Nat}{d:DevS}(h:d.down=false):Flat (d.flush n):=by
 unfold DevS.flush Flat
 rw [h]
 simp only [Bool.false_eq_true,if_false]
 unfold DevS.burn
 split<;>rfl
theorem flush_down {n:Nat}{d:DevS}(h:d.down=true):d.flush n=d:=by rw [DevS.flush,if_pos h]
theorem flushE_two (d:DevS):d.flushE=if d.down=true then 9 else 0:=rfl
theorem Up.burn {d:DevS}(h:Up d):d.burn=d:=by unfold DevS.burn;rw [h.2];rfl
theorem Up.write {n:Nat}{d:DevS}(h:Up d)(i:Int)(b:List UInt8):Up (d.write n i b):=by
 unfold DevS.write
 split
 . rw [Up.burn (d:=d.put i.toNat b) ⟨h.1,h.2⟩];exact⟨h.1,h.2⟩
 . exact h
theorem Up.flush {n:Nat}{d:DevS}(h:Up d):Up (d.flush n):=by
 unfold DevS.flush
 rw [h.1]
 simp only [Bool.false_eq_true,if_false]
 rw [Up.burn (d:=d.saved n) ⟨h.1,h.2⟩];exact⟨h.1,h.2⟩
theorem crash_up (n:Nat)(d:DevS)(keep:List Bool):Up (d.crash n keep):=⟨rfl,rfl⟩
theorem crash_flat (n:Nat)(d:DevS)(keep:List Bool):Flat (d.crash n keep):=rfl
theorem crash_mix {n:Nat}{d:DevS}(hd:d.Ok n)(keep:List Bool):Mix n d (d.crash n keep).N:=fun i _=>by
 unfold DevS.N DevS.V
 rw [show (d.crash n keep).now=d.kept (looseTo d n) keep (looseTo d n).length from rfl]
 by_cases h:∃ k,k<(looseTo d n).length/\(looseTo d n)[k]?=some i/\keep.getD k false=false
 . exact .inr (kept_was d _ keep n i hd.now.1 (fun x hx=>looseTo_lt hx) _ (Nat.le_refl _) h)
 . refine .inl (kept_now d _ keep i _ (Nat.le_refl _) (fun k hk hki=>?_))
   cases hb:keep.getD k false
   . exact absurd ⟨k,hk,hki,hb⟩ h
   . rfl
theorem Mix.flat {n:Nat}{d:DevS}{X:Nat->List UInt8}(h:Mix n d X)(hf:Flat d){i:Nat}(hi:i<n):X i=d.N i:=(h i hi).elim id (fun k=>k.trans (hf.V i))
def par (s:Int):Nat:=(s % 2).toNat
theorem par_lt (s:Int):par s<2:=by unfold par;omega
theorem par_tmod {s:Int}(h:0<=s):s.tmod 2=(par s:Int):=by rw [Int.tmod_eq_emod_of_nonneg h];unfold par;omega
theorem par_succ (s:Int):par (s+1)=1-par s:=by unfold par;omega
def SlotAt (X:Nat->List UInt8)(s:Int)(ns:List Int):Prop:=0<=s/\slotGet (X (par s)) (par s:Int)=(s,ns)/\((slotGet (X (1-par s)) ((1-par s:Nat):Int)).1<s\/s=0/\ns=[]/\slotGet (X (1-par s)) ((1-par s:Nat):Int)=(0,[]))
theorem SlotAt.newest {X:Nat->List UInt8}{s:Int}{ns:List Int}(h:SlotAt X s ns):newestS X=(s,ns):=by
 obtain⟨h0,h1,h2⟩:=h
 have hp:=par_lt s
 unfold newestS
 have hp2:par s=0\/par s=1:=by omega
 rcases hp2 with hp | hp
 . rw [hp] at h1 h2
   have h1':slotGet (X 0) 0=(s,ns):=h1
   have h2':(slotGet (X 1) 1).1<s\/s=0/\ns=[]/\slotGet (X 1) 1=(0,[]):=h2
   rcases h2' with h | ⟨rfl,rfl,h⟩
   . rw [if_pos (by rw [h1'];exact h),h1']
   . rw [if_neg (by rw [h1',h];simp),h]
 . rw [hp] at h1 h2
   have h1':slotGet (X 1) 1=(s,ns):=h1
   have h2':(slotGet (X 0) 0).1<s\/s=0/\ns=[]/\slotGet (X 0) 0=(0,[]):=h2
   rw [if_neg,h1']
   rw [h1']
   rcases h2' with h | ⟨rfl,rfl,h⟩
   . simp only [];omega
   . rw [h];simp
theorem SlotAt.congr {X Y:Nat->List UInt8}{s:Int}{ns:List Int}(h:SlotAt X s ns)(h0:Y 0=X 0)(h1:Y 1=X 1):SlotAt Y s ns:=by
 have hp:∀ k,k<2->Y k=X k:=fun k hk=>by
  have:k=0\/k=1:=by omega
  rcases this with rfl | rfl
  . exact h0
  . exact h1
 have:=par_lt s
 unfold SlotAt at *
 rw [hp (par s) (by omega),hp (1-par s) (by omega)]
 exact h
theorem SlotAt.zero {X:Nat->List UInt8}(h0:X 0=zSec)(h1:X 1=zSec):SlotAt X 0 []:=by
 have hp:par 0=0:=rfl
 refine⟨by decide,?_,.inr ⟨rfl,rfl,?_⟩⟩
 . rw [hp,h0,slotGet_zero]
 . rw [hp,show (1-0:Nat)=1 from rfl,h1,slotGet_zero]
theorem SlotAt.next {X Y:Nat->List UInt8}{s:Int}{ns ns':List Int}(h:SlotAt X s ns)(hI:s<=4611686018427387904)(h4:ns'.length<=4)(hn:∀ n∈ns',I64 n)(hY:Y (par (s+1))=slotB (s+1) ns')(hY2:Y (par s)=X (par s)):SlotAt Y (s+1) ns':=by
 obtain⟨h0,h1,_⟩:=h
 have hp:=par_succ s
 have hq:=par_lt s
 refine⟨by omega,?_,.inl ?_⟩
 . rw [hY,<- par_tmod (by omega)]
   exact slotGet_B ⟨by omega,by omega⟩ (by omega) h4 hn
 . rw [hp,show 1-(1-par s)=par s by omega,hY2,h1]
   simp only [];omega
structure SetOk (n:Nat)(d r:DevS)(s:Int)(ns:List Int):Prop where
 flat:Flat r
 slot:SlotAt r.N (s+1) ns
 same:∀ i,2<=i->r.N i=d.N i
structure SetNo (n:Nat)(d r:DevS)(s:Int)(ns ns':List Int):Prop where
 down:r.down=true
 slot:∀ X,Mix n r X->SlotAt X s ns\/SlotAt X (s+1) ns'
 same:∀ i,2<=i->r.N i=d.N i/\r.V i=d.V i
theorem set_spec {n:Nat}{d:DevS}(hd:d.Ok n){s:Int}{ns ns':List Int}(h:Hold n d (SlotAt · s ns))(hI:s<=4611686018427387904)(h4:ns'.length<=4)(hn:∀ n∈ns',I64 n) :
   ((setS n d s ns').1=0/\SetOk n d (setS n d s ns').2 s ns')\/((setS n d s ns').1=9/\SetNo n d (setS n d s ns').2 s ns ns'):=by
 have hn0:=hd.n0
 have hs0:0<=s:=(h d.N (Mix.self n d)).1
 have hp:=par_lt (s+1)
 have hps:=par_succ s
 have hpl:=par_lt s
 have hidx:(s+1).tmod 2=((par (s+1):Nat):Int):=par_tmod (by omega)
 have hbl:=slotB_len (s+1) ns'
 unfold setS
 rw [hidx]
 by_cases he:d.err n ((par (s+1):Nat):Int) 64=0
 . rw [if_pos he]
   have hw:=write_N hd (b:=slotB (s+1) ns') hbl (show par (s+1)<n by omega) he
   have hv:(d.write n ((par (s+1):Nat):Int) (slotB (s+1) ns')).V=d.V:=write_V
   have hnx:SlotAt (d.write n ((par (s+1):Nat):Int) (slotB (s+1) ns')).N (s+1) ns':=SlotAt.next (h d.N (Mix.self n d)) hI h4 hn (by rw [hw,if_pos rfl]) (by rw [hw,if_neg (by omega)])
   generalize d.write n ((par (s+1):Nat):Int) (slotB (s+1) ns')=d1 at hw hv hnx |-
   rw [flushE_two]
   cases hdn:d1.down
   . refine .inl ⟨by simp,flush_flat hdn,by rw [flush_N];exact hnx,fun i hi=>by rw [flush_N,hw,if_neg (by omega)]⟩
   . refine .inr ⟨by simp,?_⟩
     rw [flush_down hdn]
     refine⟨hdn,fun X hX=>?_,fun i hi=>⟨by rw [hw,if_neg (by omega)],by rw [hv]⟩⟩
     have hXo:=hX (par (s+1)) (by omega)
     have hXp:=hX (par s) (by omega)
     rw [hw,if_neg (by omega),hv] at hXp
     rw [hw,if_pos rfl,hv] at hXo
     rcases hXo with hXo | hXo
     . right
       have hmix:Mix n d (fun i=>if i=par s then X i else d.N i):=fun i hi=>by
        by_cases hi2:i=par s
        . simp only [hi2,if_true];exact hXp
        . exact .inl (if_neg hi2)
       exact SlotAt.next (h _ hmix) hI h4 hn hXo (by simp)
     . left
       have hmix:Mix n d (fun i=>if i<2 then X i else d.N i):=fun i hi=>by
        by_cases hi2:i<2
        . simp only [hi2,if_true]
          have:i=par s\/i=par (s+1):=by omega
          rcases this with rfl | rfl
          . exact hXp
          . exact .inr hXo
        . exact .inl (if_neg hi2)
       exact (h _ hmix).congr (by simp) (by simp)
 . rw [if_neg he]
   have hdn:d.down=true:=by
     rw [err_two (by omega)] at he
     cases hq:d.down
     . rw [hq] at he;simp at he
     . rfl
   refine .inr ⟨by rw [err_two (by omega),if_pos hdn],?_⟩
   rw [write_same hbl he]
   exact⟨hdn,fun X hX=>.inl (h X hX),fun i _=>⟨rfl,rfl⟩⟩
theorem set_up {n:Nat}{d:DevS}(hd:d.Ok n)(hu:Up d){s:Int}(hs:0<=s)(ns:List Int):(setS n d s ns).1=0/\Up (setS n d s ns).2:=by
 have hn0:=hd.n0
 have hp:=par_lt (s+1)
 have hidx:(s+1).tmod 2=((par (s+1):Nat):Int):=par_tmod (by omega)
 unfold setS
 rw [hidx,if_pos (by rw [err_two (by omega),hu.1];rfl)]
 have hw:=hu.write (n:=n) ((par (s+1):Nat):Int) (slotB (s+1) ns)
 exact⟨by rw [flushE_two,hw.1];rfl,hw.flush⟩
open Go.RowKit
def AreaIs (X:Nat->List UInt8)(i:Nat)(bs:List UInt8):Prop:=∀ j,j<bs.length->(X (i+j/64)).getD (j % 64) 0=bs.getD j 0
theorem AreaIs.nil {X:Nat->List UInt8}{i:Nat}:AreaIs X i []:=fun j hj=>by simp at hj
theorem getD_app {α:Type}(a b:List α)(j:Nat)(d:α):(a++b).getD j d=if j<a.length then a.getD j d else b.getD (j-a.length) d:=by
 split
 . rename_i h;rw [List.getD_eq_getElem?_getD,List.getElem?_append_left h,<- List.getD_eq_getElem?_getD]
 . rename_i h;rw [List.getD_eq_getElem?_getD,List.getElem?_append_right (by omega),<- List.getD_eq_getElem?_getD]
theorem AreaIs.left {X:Nat->List UInt8}{i:Nat}{a b:List UInt8}(h:AreaIs X i (a++b)):AreaIs X i a:=fun j hj=>by
 rw [h j (by rw [List.length_append];omega),getD_app,if_pos hj]
theorem AreaIs.congr {X Y:Nat->List UInt8}{i:Nat}{bs:List UInt8}(h:AreaIs X i bs)(he:∀ j,j<bs.length->Y (i+j/64)=X (i+j/64)):AreaIs Y i bs:=fun j hj=>by rw [he j hj];exact h j hj
theorem secsC_get (X:Nat->List UInt8)(i:Nat):∀ M,(∀ k,k<M->(X (i+k)).length=64)->∀ j,j<64*M->(secsC X i M).getD j 0=(X (i+j/64)).getD (j % 64) 0
 | 0,_,j,hj=>by omega
 | M+1,h,j,hj=>by
  have hl:=secsC_len X i M (fun k hk=>h k (by omega))
  rw [secsC_succ,getD_app,hl]
  split
  . rename_i hlt
    exact secsC_get X i M (fun k hk=>h k (by omega)) j hlt
  . rename_i hge
    rw [show j/64=M by omega,show j-64*M=j % 64 by omega]
theorem list_ext_getD {a b:List UInt8}(hl:a.length=b.length)(h:∀ j,j<a.length->a.getD j 0=b.getD j 0):a=b:=by
 apply List.ext_getElem hl
 intro j h1 h2
 have:=h j h1
 simpa [List.getD,List.getElem?_eq_getElem h1,List.getElem?_eq_getElem h2] using this
theorem getD_take (a:List UInt8)(m j:Nat)(hj:j<m):(a.take m).getD j 0=a.getD j 0:=by rw [List.getD_eq_getElem?_getD,List.getElem?_take_of_lt hj,<- List.getD_eq_getElem?_getD]
theorem areaC_eq {X:Nat->List UInt8}{i:Nat}{bs:List UInt8}(hX:∀ k,k<(bs.length+63)/64->(X (i+k)).length=64)(h:AreaIs X i bs):areaC X i bs.length=bs:=by
 have hl:=secsC_len X i ((bs.length+63)/64) hX
 unfold areaC
 refine list_ext_getD (by rw [List.length_take,hl];omega) (fun j hj=>?_)
 rw [List.length_take,hl] at hj
 rw [getD_take _ _ _ (by omega),secsC_get X i _ hX j (by omega),h j (by omega)]
theorem padS_get (b:List UInt8)(j:Nat)(hj:j<64):(padS b).getD j 0=b.getD j 0:=by
 unfold padS
 rw [getD_app,List.length_take]
 split
 . rw [getD_take _ _ _ hj]
 . rename_i h
   rw [List.getD_eq_getElem?_getD,List.getElem?_replicate,List.getD_eq_getElem?_getD,List.getElem?_eq_none (by omega)]
   split<;>rfl
theorem getD_drop (b:List UInt8)(m j:Nat):(b.drop m).getD j 0=b.getD (m+j) 0:=by rw [List.getD_eq_getElem?_getD,List.getElem?_drop,<- List.getD_eq_getElem?_getD]
structure WrOk (n:Nat)(d:DevS)(i:Nat)(b:List UInt8)(r:Int×DevS):Prop where
 two:r.1=0\/r.1=9/\r.2.down=true
 V:r.2.V=d.V
 out:∀ j,j<i\/i+(b.length+63)/64<=j->r.2.N j=d.N j
 inn:∀ j,i<=j->j<i+(b.length+63)/64->r.2.N j=d.N j\/r.2.N j=padS (b.drop (64*(j-i)))
 all:r.1=0->∀ j,i<=j->j<i+(b.length+63)/64->r.2.N j=padS (b.drop (64*(j-i)))
theorem wr_spec (n:Nat):∀ (m:Nat) (d:DevS) (i:Nat) (b:List UInt8),b.length<=m->d.Ok n->i+(b.length+63)/64<=n->WrOk n d i b (wrO n d i b)
 | m,d,i,b,hm,hd,hn=>by
  by_cases h0:b.length=0
  . have hb:b=[]:=List.eq_nil_of_length_eq_zero h0
    subst hb
    rw [wrO_nil]
    exact⟨.inl rfl,rfl,fun _ _=>rfl,fun j h1 h2=>by simp at h2;omega,fun _ j h1 h2=>by simp at h2;omega⟩
  . have hi:i<n:=by omega
    have hpl:=padS_len b
    by_cases he:d.err n (i:Int) 64=0
    . rw [wrO_ok h0 he]
      have hw:=write_N hd hpl hi he
      have hv:(d.write n (i:Int) (padS b)).V=d.V:=write_V
      match m,hm with
      | 0,hm=>omega
      | m+1,hm=>
       have hdl:(b.drop 64).length=b.length-64:=List.length_drop
       have ih:=wr_spec n m (d.write n (i:Int) (padS b)) (i+1) (b.drop 64) (by omega) (hd.write _ _) (by omega)
       generalize d.write n (i:Int) (padS b)=d1 at hw hv ih |-
       generalize wrO n d1 (i+1) (b.drop 64)=r at ih |-
       have hin:∀ j,i+1<=j->(b.drop 64).drop (64*(j-(i+1)))=b.drop (64*(j-i)):=fun j hj=>by rw [List.drop_drop];congr 1;omega
       refine⟨ih.two,ih.V.trans hv,fun j hj=>?_,fun j h1 h2=>?_,fun hr j h1 h2=>?_⟩
       . rw [ih.out j (by omega),hw,if_neg (by omega)]
       . rcases Nat.lt_or_ge i j with h | h
         . rcases Nat.lt_or_ge j (i+1+((b.drop 64).length+63)/64) with h' | h'
           . rcases ih.inn j h h' with k | k
             . left;rw [k,hw,if_neg (by omega)]
             . right;rw [k,hin j h]
           . left;rw [ih.out j (by omega),hw,if_neg (by omega)]
         . obtain rfl:i=j:=by omega
           right
           rw [ih.out i (by omega),hw,if_pos rfl,Nat.sub_self,Nat.mul_zero,List.drop_zero]
       . rcases Nat.lt_or_ge i j with h | h
         . rw [ih.all hr j h (by omega),hin j h]
         . obtain rfl:i=j:=by omega
           rw [ih.out i (by omega),hw,if_pos rfl,Nat.sub_self,Nat.mul_zero,List.drop_zero]
    . rw [wrO_no h0 he]
      have hdn:d.down=true:=by
       rw [err_two hi] at he
       cases hq:d.down
       . rw [hq] at he;simp at he
       . rfl
      exact⟨.inr ⟨by rw [err_two hi,if_pos hdn],hdn⟩,rfl,fun _ _=>rfl,fun _ _ _=>.inl rfl,fun h=>absurd h he⟩
theorem wr_up (n:Nat):∀ (m:Nat) (d:DevS) (i:Nat) (b:List UInt8),b.length<=m->Up d->i+(b.length+63)/64<=n->(wrO n d i b).1=0/\Up (wrO n d i b).2
 | m,d,i,b,hm,hu,hn=>by
  by_cases h0:b.length=0
  . have hb:b=[]:=List.eq_nil_of_length_eq_zero h0
    subst hb
    rw [wrO_nil]
    exact⟨rfl,hu⟩
  . have hi:i<n:=by omega
    rw [wrO_ok h0 (by rw [err_two hi,hu.1];rfl)]
    have hdl:(b.drop 64).length=b.length-64:=List.length_drop
    match m,hm with
    | 0,hm=>omega
    | m+1,hm=>exact wr_up n m _ (i+1) (b.drop 64) (by omega) (hu.write _ _) (by omega)
theorem WrOk.area {n:Nat}{d:DevS}{i:Nat}{b:List UInt8}{r:Int×DevS}(h:WrOk n d i b r)(he:r.1=0):AreaIs r.2.N i b:=fun j hj=>by
 rw [h.all he (i+j/64) (by omega) (by omega),padS_get _ _ (by omega),getD_drop]
 congr 1
 omega
theorem head_get {d:DevS}{used:Nat}{b:List UInt8}(hl:(d.N (2+used/64)).length=64)(j:Nat):(headW d used b).getD j 0=if j<used % 64 then (d.N (2+used/64)).getD j 0 else b.getD (j-used % 64) 0:=by
 have hh:((d.N (2+used/64)).take (used % 64)).length=used % 64:=by rw [List.length_take,hl];omega
 unfold headW
 rw [getD_app,hh]
 split
 . rename_i h;rw [getD_take _ _ _ h]
 . rfl
theorem head_len {d:DevS}{used:Nat}{b:List UInt8}(hl:(d.N (2+used/64)).length=64):(headW d used b).length=used % 64+b.length:=by
 unfold headW
 rw [List.length_append,List.length_take,hl];omega
theorem head_keeps {n:Nat}{d:DevS}{bs b:List UInt8}{r:Int×DevS}(hl:(d.N (2+bs.length/64)).length=64)(h:WrOk n d (2+bs.length/64) (headW d bs.length b) r)(ha:Hold n d (AreaIs · 2 bs))(hb:2+bs.length/64<n):∀ X,Mix n r.2 X->AreaIs X 2 bs:=fun X hX j hj=>by
 have hjn:2+j/64<n:=by omega
 have hd:(d.N (2+j/64)).getD (j % 64) 0=bs.getD j 0:=ha d.N (Mix.self n d) j hj
 have hv:(d.V (2+j/64)).getD (j % 64) 0=bs.getD j 0:=ha d.V (fun i _=>.inr rfl) j hj
 rcases hX (2+j/64) hjn with hx | hx
 . rw [hx]
   rcases Nat.lt_or_ge (j/64) (bs.length/64) with hlt | hge
   . rw [h.out (2+j/64) (.inl (by omega))];exact hd
   . have he:j/64=bs.length/64:=by omega
     have hhl:=head_len (b:=b) hl
     rcases Nat.eq_zero_or_pos (headW d bs.length b).length with h0 | h0
     . rw [h.out (2+j/64) (.inr (by rw [h0];omega))];exact hd
     . rw [he]
       rcases h.inn (2+bs.length/64) (by omega) (by omega) with k | k
       . rw [k,<- he];exact hd
       . rw [k,Nat.sub_self,Nat.mul_zero,List.drop_zero,padS_get _ _ (by omega),head_get hl,if_pos (by omega),<- he];exact hd
 . rw [hx,h.V];exact hv
theorem head_area {n:Nat}{d:DevS}{bs b:List UInt8}{r:Int×DevS}(hl:(d.N (2+bs.length/64)).length=64)(h:WrOk n d (2+bs.length/64) (headW d bs.length b) r)(he:r.1=0)(ha:AreaIs d.N 2 bs):AreaIs r.2.N 2 (bs++b):=fun j hj=>by
 have hhl:=head_len (b:=b) hl
 have hA:=h.area he
 rw [List.length_append] at hj
 rcases Nat.lt_or_ge (j/64) (bs.length/64) with hlt | hge
 . rw [h.out (2+j/64) (.inl (by omega)),ha j (by omega),getD_app,if_pos (by omega)]
 . have h1:=hA (j-64*(bs.length/64)) (by omega)
   rw [show 2+bs.length/64+(j-64*(bs.length/64))/64=2+j/64 by omega,show (j-64*(bs.length/64)) % 64=j % 64 by omega,head_get hl] at h1
   rw [h1,getD_app]
   by_cases hjb:j<bs.length
   . rw [if_pos (by omega),if_pos hjb,<- ha j hjb]
     congr 1
     . congr 1;omega
     . omega
   . rw [if_neg (by omega),if_neg hjb]
     congr 1;omega
structure WrL (n:Nat)(d:DevS)(bs b:List UInt8)(r:Int×DevS):Prop where
 ok:r.2.Ok n
 out:∀ j,j<2\/2+(bs.length+b.length+63)/64<=j->r.2.N j=d.N j/\(r.2.V j=d.V j\/r.2.V j=d.N j)
 cases:(r.1=0/\Flat r.2/\AreaIs r.2.N 2 (bs++b))\/(r.1=9/\r.2.down=true/\∀ X,Mix n r.2 X->AreaIs X 2 bs)
theorem writeL_spec {n:Nat}{d:DevS}(hd:d.Ok n){bs b:List UInt8}(ha:Hold n d (AreaIs · 2 bs))(hb0:0<b.length)(hn:2+(bs.length+b.length+63)/64<=n):WrL n d bs b (writeL n d bs.length b):=by
 have hl:(d.N (2+bs.length/64)).length=64:=hd.now.get (hd.now.getD (by omega))
 have hhl:=head_len (b:=b) hl
 have hw:=wr_spec n _ d (2+bs.length/64) (headW d bs.length b) (Nat.le_refl _) hd (by omega)
 have hk:=head_keeps hl hw ha (by omega)
 have har:=fun he=>head_area hl hw he (ha d.N (Mix.self n d))
 have hok:(wrO n d (2+bs.length/64) (headW d bs.length b)).2.Ok n:=wrO_okDev n _ d _ _ hd
 unfold writeL
 generalize wrO n d (2+bs.length/64) (headW d bs.length b)=r at hw hk har hok |-
 by_cases he:r.1=0
 . rw [if_pos he]
   cases hdn:r.2.down
   . refine⟨hok.flush,fun j hj=>?_,.inl ⟨by rw [flushE_two,hdn];rfl,flush_flat hdn,by rw [flush_N];exact har he⟩⟩
     have hN:r.2.N j=d.N j:=hw.out j (by omega)
     refine⟨by rw [flush_N];exact hN,.inr ?_⟩
     rw [(flush_flat hdn).V,flush_N];exact hN
   . rw [flush_down hdn]
     exact⟨hok,fun j hj=>⟨hw.out j (by omega),.inl (by rw [hw.V])⟩,.inr ⟨by rw [flushE_two,if_pos hdn],hdn,hk⟩⟩
 . rw [if_neg he]
   rcases hw.two with h | h
   . exact absurd h he
   . exact⟨hok,fun j hj=>⟨hw.out j (by omega),.inl (by rw [hw.V])⟩,.inr ⟨h.1,h.2,hk⟩⟩
theorem writeL_up {n:Nat}{d:DevS}(hd:d.Ok n)(hu:Up d)(used:Nat)(b:List UInt8)(hn:2+(used+b.length+63)/64<=n)(hb0:0<b.length):(writeL n d used b).1=0/\Up (writeL n d used b).2:=by
 have hl:(d.N (2+used/64)).length=64:=hd.now.get (hd.now.getD (by omega))
 have hhl:=head_len (b:=b) hl
 have hw:=wr_up n _ d (2+used/64) (headW d used b) (Nat.le_refl _) hu (by omega)
 unfold writeL
 rw [if_pos hw.1]
 exact⟨by rw [flushE_two,hw.2.1];rfl,hw.2.flush⟩
open Go.RowKit
structure LogS where
 serial:Int
 area:Int
 length:Int
 recs:List (List UInt8)
def LogS.used (g:LogS):Nat:=(recsB g.recs).length
structure LogS.Fine (n:Nat)(g:LogS):Prop where
 s1:1<=g.serial
 s2:g.serial<=1000000000
 area:I64 g.area
 length:I64 g.length
 recs:∀ b∈g.recs,okRec b
 fits:g.used<=ringN n
def LogAt (X:Nat->List UInt8)(g:LogS):Prop:=SlotAt X g.serial [g.area,g.length,(g.used:Int)]/\AreaIs X 2 (recsB g.recs)
def LogS.view (g:LogS):OpenV:=⟨g.serial,g.area,g.length,g.used,g.recs⟩
def LogS.log (g:LogS):LogV:=⟨g.area,g.length,g.used,g.serial,false,false⟩
theorem ringN_le {n:Nat}(h:n<=4096):ringN n<=262144:=by unfold ringN;omega
theorem LogS.Fine.In {n:Nat}{g:LogS}(h:g.Fine n)(hn:n<=4096):g.log.In:=⟨h.area,h.length,by have:=ringN_le hn;have:=h.fits;show g.used<=_;omega,by have:=h.s1;show 0<=g.serial;omega,by have:=h.s2;show g.serial<=_;omega⟩
theorem LogAt.open_ {n:Nat}{X:Nat->List UInt8}{g:LogS}(h:LogAt X g)(hg:g.Fine n)(hX:∀ i,i<n->(X i).length=64)(hn:64<=n):openL n X=some g.view:=by
 have h1:=h.1.newest
 have hf:=hg.fits
 have hs1:=hg.s1
 rw [openL_three h1,if_neg (by omega),Int.toNat_natCast]
 have hb:bytesC X g.used=recsB g.recs:=by
  have:=areaC_eq (X:=X) (i:=2) (bs:=recsB g.recs) (fun k hk=>hX _ (by unfold ringN at hf;unfold LogS.used at hf;omega)) h.2
  exact this
 rw [hb,recsOf_B _ hg.recs]
 rfl
theorem LogAt.congr {n:Nat}{X Y:Nat->List UInt8}{g:LogS}(h:LogAt X g)(hg:g.Fine n)(hn:64<=n)(he:∀ i,i<n/2->Y i=X i):LogAt Y g:=by
 have hf:=hg.fits
 unfold ringN LogS.used at hf
 exact⟨h.1.congr (he 0 (by omega)) (he 1 (by omega)),h.2.congr (fun j hj=>he _ (by omega))⟩
theorem setsL_spec {n:Nat}{d:DevS}(hd:d.Ok n){g:LogS}(hg:g.Fine n)(hs:g.serial<=999999999){area length:Int}(ha:I64 area)(hl:I64 length){bs:List (List UInt8)}(hbs:∀ b∈bs,okRec b)(hf:(recsB bs).length<=ringN n)
   (h:Hold n d (LogAt · g)) (hA:Hold n d (AreaIs · 2 (recsB bs))) (L:LogV) (hL:L.serial=g.serial) :
   let r:=setsL n d L area length (recsB bs).length
   r.2.1.Ok n/\(∀ i,2<=i->(r.2.1.N i=d.N i)/\(r.2.1.V i=d.V i\/r.2.1.V i=d.N i)) /\
   ((r.1=0/\Flat r.2.1/\r.2.2={ L with area:=area,length:=length,used:=(recsB bs).length,serial:=g.serial+1 }/\LogAt r.2.1.N ⟨g.serial+1,area,length,bs⟩) \/
    (r.1=9/\r.2.1.down=true/\r.2.2={ L with sbad:=true }/\∀ X,Mix n r.2.1 X->LogAt X g\/LogAt X ⟨g.serial+1,area,length,bs⟩)):=by
 have hn0:=hd.n0
 have hn1:=hd.n1
 have hr:=ringN_le hn1
 have hsp:=set_spec (s:=g.serial) (ns:=[g.area,g.length,(g.used:Int)]) (ns':=[area,length,((recsB bs).length:Int)]) hd (fun X hX=>(h X hX).1) (by omega) (by simp) (by
   intro x hx
   simp at hx
   rcases hx with rfl | rfl | rfl
   . exact ha
   . exact hl
   . exact⟨by omega,by omega⟩)
 have hok:=setS_ok hd g.serial [area,length,((recsB bs).length:Int)]
 unfold setsL
 rw [hL]
 generalize setS n d g.serial [area,length,((recsB bs).length:Int)]=r at hsp hok
 have hfit:∀ j,j<(recsB bs).length->2+j/64<n:=fun j hj=>by unfold ringN at hf;omega
 rcases hsp with ⟨he,hs⟩ | ⟨he,hs⟩
 . simp only [he,if_true]
   refine⟨hok,fun i hi=>⟨hs.same i hi,.inr (by rw [hs.flat.V];exact hs.same i hi)⟩,.inl ⟨by first | rfl | trivial,hs.flat,by first | rfl | trivial,hs.slot,(hA d.N (Mix.self n d)).congr (fun j hj=>hs.same _ (by omega))⟩⟩
 . rw [if_neg (by rw [he];decide)]
   refine⟨hok,fun i hi=>⟨(hs.same i hi).1,.inl (hs.same i hi).2⟩,.inr ⟨he,hs.down,rfl,fun X hX=>?_⟩⟩
   have hmix:∀ i,2<=i->i<n->X i=d.N i\/X i=d.V i:=fun i h2 hi=>by
     rcases hX i hi with k | k
     . exact .inl (k.trans (hs.same i h2).1)
     . exact .inr (k.trans (hs.same i h2).2)
   have hM:Mix n d (fun i=>if i<2 then d.N i else X i):=fun i hi=>by
     by_cases h2:i<2
     . exact .inl (if_pos h2)
     . rcases hmix i (by omega) hi with k | k
       . exact .inl ((if_neg h2).trans k)
       . exact .inr ((if_neg h2).trans k)
   rcases hs.slot X hX with k | k
   . exact .inl ⟨k,(h _ hM).2.congr (fun j hj=>by simp only [show ¬ (2+j/64<2) by omega,if_false])⟩
   . exact .inr ⟨k,(hA _ hM).congr (fun j hj=>by simp only [show ¬ (2+j/64<2) by omega,if_false])⟩
theorem setsL_up {n:Nat}{d:DevS}(hd:d.Ok n)(hu:Up d)(L:LogV)(hs:0<=L.serial)(area length:Int)(used:Nat):(setsL n d L area length used).1=0/\Up (setsL n d L area length used).2.1:=by
 have h:=set_up (ns:=[area,length,(used:Int)]) hd hu hs
 unfold setsL
 rw [if_pos h.1]
 exact⟨rfl,h.2⟩
theorem resetL_spec {n:Nat}{d:DevS}(hd:d.Ok n){g:LogS}(hg:g.Fine n)(hs:g.serial<=999999999){area length:Int}(ha:I64 area)(hl:I64 length)(h:Hold n d (LogAt · g)) :
   let r:=resetL n d g.log area length
   r.2.1.Ok n/\(∀ i,2<=i->(r.2.1.N i=d.N i)/\(r.2.1.V i=d.V i\/r.2.1.V i=d.N i)) /\
   ((r.1=0/\Flat r.2.1/\r.2.2=LogS.log ⟨g.serial+1,area,length,[]⟩/\LogAt r.2.1.N ⟨g.serial+1,area,length,[]⟩) \/
    (r.1=9/\r.2.1.down=true/\r.2.2.lbad=true/\∀ X,Mix n r.2.1 X->LogAt X g\/LogAt X ⟨g.serial+1,area,length,[]⟩)):=by
 have hsp:=setsL_spec (bs:=[]) hd hg hs ha hl (fun b hb=>by cases hb) (by simp [recsB]) h (fun _ _=>AreaIs.nil) g.log rfl
 rw [show (recsB []).length=0 from rfl] at hsp
 unfold resetL
 generalize setsL n d g.log area length 0=r at hsp |-
 obtain⟨h1,h2,h3⟩:=hsp
 refine⟨h1,h2,?_⟩
 rcases h3 with ⟨he,hf,hL,hA⟩ | ⟨he,hdn,hL,hA⟩
 . exact .inl ⟨he,hf,by rw [hL];simp [he,LogS.log,LogS.used,recsB],hA⟩
 . exact .inr ⟨he,hdn,by simp [he],hA⟩
theorem resetL_up {n:Nat}{d:DevS}(hd:d.Ok n)(hu:Up d)(L:LogV)(hs:0<=L.serial)(area length:Int):(resetL n d L area length).1=0/\Up (resetL n d L area length).2.1:=setsL_up hd hu L hs area length 0
theorem recsB_len_app (l:List (List UInt8))(b:List UInt8):(recsB (l++[b])).length=(recsB l).length+b.length+2:=by rw [recsB_app,recsB_one,List.length_append,recB_len];omega
structure AppOut (n:Nat)(d:DevS)(g:LogS)(b:List UInt8)(r:Int×DevS×LogV):Prop where
 ok:r.2.1.Ok n
 high:∀ i,n/2<=i->(r.2.1.N i=d.N i)/\(r.2.1.V i=d.V i\/r.2.1.V i=d.N i)
 cases:(r.1=1/\(b.length<1\/1000<b.length)/\r.2.1=d/\r.2.2=g.log) \/
  (r.1=5/\okRec b/\ringN n<g.used+b.length+2/\r.2.1=d/\r.2.2=g.log) \/
  (r.1=0/\okRec b/\g.used+b.length+2<=ringN n/\Flat r.2.1/\r.2.2=LogS.log ⟨g.serial+1,g.area,g.length,g.recs++[b]⟩/\LogAt r.2.1.N ⟨g.serial+1,g.area,g.length,g.recs++[b]⟩) \/
  (r.1=9/\okRec b/\g.used+b.length+2<=ringN n/\r.2.1.down=true/\r.2.2.lbad=true/\∀ X,Mix n r.2.1 X->LogAt X g\/LogAt X ⟨g.serial+1,g.area,g.length,g.recs++[b]⟩)
theorem appendL_spec {n:Nat}{d:DevS}(hd:d.Ok n){g:LogS}(hg:g.Fine n)(hs:g.serial<=999999999)(h:Hold n d (LogAt · g))(b:List UInt8):AppOut n d g b (appendL n d g.log b):=by
 have hn0:=hd.n0
 unfold appendL
 by_cases h1:b.length<1\/1000<b.length
 . rw [if_pos h1]
   exact⟨hd,fun _ _=>⟨rfl,.inl rfl⟩,.inl ⟨rfl,h1,rfl,rfl⟩⟩
 . have hb:okRec b:=⟨by omega,by omega⟩
   rw [if_neg h1]
   by_cases h2:(ringN n:Int)-(g.log.used:Int)<((b.length+2:Nat):Int)
   . rw [if_pos h2]
     have:g.log.used=g.used:=rfl
     exact⟨hd,fun _ _=>⟨rfl,.inl rfl⟩,.inr (.inl ⟨rfl,hb,by omega,rfl,rfl⟩)⟩
   . rw [if_neg h2]
     have hu:g.log.used=(recsB g.recs).length:=rfl
     have hu2:g.used=(recsB g.recs).length:=rfl
     have hfit:g.used+b.length+2<=ringN n:=by rw [hu] at h2;rw [hu2];omega
     have hring:2+(g.used+b.length+2+63)/64<=n/2:=by unfold ringN at hfit;omega
     have hrl:=recB_len b
     have hw:=writeL_spec (bs:=recsB g.recs) (b:=recB b) hd (fun X hX=>(h X hX).2) (by omega) (by omega)
     rw [hu]
     generalize writeL n d (recsB g.recs).length (recB b)=w at hw |-
     obtain⟨e1,d1⟩:=w
     have hwo:=hw.out
     have hwk:=hw.ok
     dsimp only at hwo hwk |-
     rcases hw.cases with ⟨he,hfl,hA⟩ | ⟨he,hdn,hA⟩
     . dsimp only at he hfl hA
       rw [if_pos he]
       have hA2:AreaIs d1.N 2 (recsB (g.recs++[b])):=by rw [recsB_app,recsB_one];exact hA
       have hlog1:LogAt d1.N g:=⟨(h d.N (Mix.self n d)).1.congr (hwo 0 (by omega)).1 (hwo 1 (by omega)).1,hA.left⟩
       have hmixf:∀ X,Mix n d1 X->∀ i,i<n->X i=d1.N i:=fun X hX i hi=>Mix.flat hX hfl hi
       have hold1:Hold n d1 (LogAt · g):=fun X hX=>hlog1.congr hg hn0 (fun i hi=>hmixf X hX i (by omega))
       have hold2:Hold n d1 (AreaIs · 2 (recsB (g.recs++[b]))):=fun X hX=>hA2.congr (fun j hj=>hmixf X hX _ (by rw [recsB_len_app] at hj;omega))
       have hsp:=setsL_spec (bs:=g.recs++[b]) (area:=g.area) (length:=g.length) hwk hg hs hg.area hg.length (fun x hx=>by
         rcases List.mem_append.1 hx with hx | hx
         . exact hg.recs x hx
         . simp at hx;subst hx;exact hb) (by rw [recsB_len_app];omega) hold1 hold2 g.log rfl
       rw [recsB_len_app] at hsp
       have ea:g.log.area=g.area:=rfl
       have el:g.log.length=g.length:=rfl
       rw [ea,el]
       generalize setsL n d1 g.log g.area g.length ((recsB g.recs).length+b.length+2)=r at hsp |-
       obtain⟨h3,h4,h5⟩:=hsp
       refine⟨h3,fun i hi=>?_,?_⟩
       . have h6:=h4 i (by omega)
         have h7:=hwo i (by omega)
         refine⟨h6.1.trans h7.1,?_⟩
         rcases h6.2 with k | k
         . rcases h7.2 with k2 | k2
           . exact .inl (k.trans k2)
           . exact .inr (k.trans k2)
         . exact .inr (k.trans h7.1)
       . rcases h5 with ⟨he2,hf2,hL2,hA3⟩ | ⟨he2,hd2,hL2,hA3⟩
         . exact .inr (.inr (.inl ⟨he2,hb,hfit,hf2,by rw [hL2];simp [he2,LogS.log,LogS.used,recsB_len_app],hA3⟩))
         . exact .inr (.inr (.inr ⟨he2,hb,hfit,hd2,by simp [he2],hA3⟩))
     . dsimp only at he hdn hA
       rw [if_neg (by rw [he];decide)]
       refine⟨hwk,fun i hi=>hwo i (by omega),.inr (.inr (.inr ⟨he,hb,hfit,hdn,rfl,fun X hX=>.inl ⟨?_,hA X hX⟩⟩))⟩
       have hM:Mix n d (fun i=>if i<2 then X i else d.N i):=fun i hi=>by
         by_cases h2:i<2
         . have h6:=hwo i (.inl h2)
           rcases hX i hi with k | k
           . exact .inl ((if_pos h2).trans (k.trans h6.1))
           . rcases h6.2 with k2 | k2
             . exact .inr ((if_pos h2).trans (k.trans k2))
             . exact .inl ((if_pos h2).trans (k.trans k2))
         . exact .inl (if_neg h2)
       exact (h _ hM).1.congr (by simp) (by simp)
end Go.Proofs.YtnlpccoigflheaaGreatDoor
