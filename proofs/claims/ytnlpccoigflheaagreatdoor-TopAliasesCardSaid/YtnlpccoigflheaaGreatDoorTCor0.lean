/- TBeg13 TBeg18a TBeg18 TIter TCor0 -/
import Derived.Test.YtnlpccoigflheaaGreatDoorTHitEq
import Derived.Test.YtnlpccoigflheaaGreatDoorAgg
import Derived.Test.YtnlpccoigflheaaGreatDoorFac
namespace Go.Proofs.YtnlpccoigflheaaGreatDoor
open Go.RowKit
open Go.Proofs.Tryz
def TuK:Tbl:=⟨[(36,2,2),(36,3,3),(72,0,0),(114,0,0),(114,3,3),(120,0,0),(232,2,2),(234,1,1)],[],[37,85]⟩
theorem uK:TuK.Ok Tryz.prog:=.of (⟨⟨_,Tryz.underlying37⟩,⟨_,Tryz.underlying85⟩,trivial⟩)
section
variable (W:World)(B:Nat)
theorem law_Begun7 (h0:0<B)(hg:W.cell? ⟨0,0,none⟩=some (rty 43)):Spec prog W B 307 [] [] (fun v post=>v=.bool true/\post=[]):=by
 refine Spec.eG [] func307 ntmps307 fun w0=>?_
 refine CW.go uK 7 rfl (LW.eT (law_begun7 W B h0 hg) cl348 ((Take.none _)) ?_)
 refine LW.go uK 4 rfl ?_
 refine NW.r1 ⟨_,⟨rfl,rfl⟩,?_⟩
 exact Sub.nil _
set_option maxHeartbeats 1000000 in
set_option maxRecDepth 4000 in
theorem law_begun13 (h0:0<B)(hg:W.cell? ⟨0,0,none⟩=some (rty 43))(ht:Tab W B):Spec prog W B 261 [] [] (fun v post=>v=.bool true/\post=[]):=by
 refine Spec.eG [] func261 ntmps261 fun w0=>?_
 refine CW.go uK 7 rfl (LW.cT (flat_New W B 1 (.inl rfl)) cl162 ((Take.none _)) ?_)
 rintro _ rf ⟨pf,rfl,hf⟩
 refine LW.bs [_] underlying25 info21 ?_
 intro bs16
 refine LW.bs [_] underlying25 info21 ?_
 intro bs17
 refine LW.bs [_,_] underlying22 info25 ?_
 intro bs18
 refine LW.cT (ivf_New W B 1 (.inl rfl) ([cr bs18 25 ([(bs16,[0]),(bs17,[9])].map vsl)]++([cr bs16 21 ([0].map i32v)]++[cr bs17 21 ([9].map i32v)])) _ _ (vecsRow bs18 [(bs16,[0]),(bs17,[9])] (by simp) (by simp)) (by simp) (fun x hx=>by simp at hx;rcases hx with rfl | rfl<;>exact VOk.of rfl)) cl163 .n3 ?_
 rintro _ _ ⟨pi,ri,bi,rfl,hi,rfl⟩;refine LW.splitA ?_
 refine LW.cT (gra_New W B 1 (.inl rfl)) cl164 ((Take.none _)) ?_
 rintro _ rg ⟨pg,rfl,hgr⟩
 refine LW.bs [_] underlying25 info21 ?_
 intro bs21
 refine LW.bs [_] underlying25 info21 ?_
 intro bs22
 refine LW.bs [_,_] underlying22 info25 ?_
 intro bs23
 refine LW.cT (cod_New W B 1 (.inl rfl) 1 (by decide) (by decide) ([cr bs23 25 ([(bs21,[0]),(bs22,[9])].map vsl)]++([cr bs21 21 ([0].map i32v)]++[cr bs22 21 ([9].map i32v)])) _ _ (vecsRow bs23 [(bs21,[0]),(bs22,[9])] (by simp) (by simp)) (by simp) (fun x hx=>by simp at hx;rcases hx with rfl | rfl<;>rfl)) cl165 .n3 ?_
 rintro _ _ ⟨pc,rc,bc,rfl,hc,rfl⟩;refine LW.splitA ?_
 generalize ([cr bs18 25 ([(bs16,[0]),(bs17,[9])].map vsl)]++([cr bs16 21 ([0].map i32v)]++[cr bs17 21 ([9].map i32v)]))=R1
 generalize ([cr bs23 25 ([(bs21,[0]),(bs22,[9])].map vsl)]++([cr bs21 21 ([0].map i32v)]++[cr bs22 21 ([9].map i32v)]))=R2
 refine LW.front (p:=bc++R2) .t (LW.front (p:=bi++R1) .t (LW.unfoc (a:=(bi++R1)++(bc++R2)) (List.Perm.refl _) ?_))
 refine LW.go uK 10 rfl (LW.pn underlying156 ?_)
 refine LW.go uK 4 rfl (LW.pn underlying157 ?_)
 refine LW.go uK 5 rfl (LW.pn underlying158 ?_)
 refine LW.go uK 5 rfl (LW.pn underlying159 ?_)
 refine LW.go uK 13 rfl ?_
 refine CW.loopG (fun st:Nat×List Row×List Row×List Row×List Row×List Row=>[(5,.int .i64 ((st.1:Int)+1)),(1,ptr pf),(2,ptr pi),(3,ptr pg),(4,ptr pc)]) (fun st=>[st.2.1,st.2.2.1,st.2.2.2.1,st.2.2.2.2.1,st.2.2.2.2.2]) (fun st=>st.1<=5/\FlatR W B st.2.2.2.2.2 pf 1 (flK st.1) st.2.1/\IvfR W B st.2.2.2.2.2 pi 1 (midsP 4 3 [[0],[9]]) (ivK st.1) st.2.2.1/\GraR W B st.2.2.2.2.2 pg 1 (grK st.1) st.2.2.2.1/\CodR W B st.2.2.2.2.2 pc 1 (lows 1 [[0],[9]]) (steps 1 [[0],[9]]) (coK st.1) st.2.2.2.2.1) (fun st=>5-st.1) (0,rf,ri,rg,rc,(bi++R1)++(bc++R2)) (by exact⟨Nat.zero_le _,hf _,hi.more fun x hx=>List.mem_append_left _ (List.mem_append_left _ hx),hgr _,hc.more fun x hx=>List.mem_append_right _ (List.mem_append_left _ hx)⟩) rfl (by repeat' constructor) ?_
 rintro⟨k,rf,ri,rg,rc,im⟩ ⟨hk,hf,hi,hgr,hc⟩;dsimp only at hk hf hi hgr hc |-
 refine CW.go uK 4 rfl (LW.leq (decide ((k:Int)+1<=5)) rfl rfl (rfl) rfl ?_)
 refine LW.go uK 2 rfl ?_
 refine CW.cond rfl (fun hc40=>?_) (fun hc40=>?_)
 . have hin:k<5:=oT hc40
   have hid:IdOk ((k:Int)+1):=by unfold IdOk;omega
   have hvo:VOk [2*((k:Int)+1)]:=⟨by simp,fun x hx=>by simp at hx;subst hx;unfold InB;omega⟩
   refine CW.go uK 7 rfl (LW.mul ((2*((k:Int)+1))) rfl rfl w4 rfl ?_)
   refine LW.convInt ((2*((k:Int)+1))) rfl underlying3 underlying21 (by exact wr32 rfl (by omega) (by omega)) rfl ?_
   refine LW.bs [_] underlying25 info21 ?_
   intro bs46
   refine LW.go uK 8 rfl (LW.cT (flat_Put W B pf 1 (flK k) rf ([cr bs46 21 ([2*((k:Int)+1)].map i32v)]++im) ((k:Int)+1) (vsl (bs46,[2*((k:Int)+1)])) [2*((k:Int)+1)] (hf.more fun y hy=>List.mem_append_right _ hy) (vecRow (bs46,_) (by simp)) hvo hid) cl96 .n3 ?_)
   rintro _ _ ⟨rfl,rf',c50,hf',rfl⟩;refine LW.splitA ?_
   refine LW.go uK 7 rfl (LW.cT (ivf_Put W B pi 1 _ (ivK k) ri (c50++([cr bs46 21 ([2*((k:Int)+1)].map i32v)]++im)) ((k:Int)+1) (vsl (bs46,[2*((k:Int)+1)])) [2*((k:Int)+1)] (hi.more fun y hy=>by simp [hy]) (vecRow (bs46,_) (by simp)) hvo hid) cl97 .n2 ?_)
   rintro _ _ ⟨rfl,ri',c54,hi',rfl⟩;refine LW.splitA ?_
   refine LW.go uK 8 rfl (LW.convInt (((k+1:Nat):Int)) rfl underlying3 underlying30 (by rw [wrap_u32];omega) rfl ?_)
   refine LW.cT (gra_Put W B ht pg 1 (grK k) rg (c54++(c50++([cr bs46 21 ([2*((k:Int)+1)].map i32v)]++im))) ((k:Int)+1) (vsl (bs46,[2*((k:Int)+1)])) [2*((k:Int)+1)] (k+1) (hgr.more fun y hy=>by simp [hy]) (vecRow (bs46,_) (by simp)) hvo hid (by omega) (Option.isNone_iff_eq_none.1 (grK_new k hin))) cl98 .n2 ?_
   rintro _ _ ⟨rfl,rg',c60,hg',rfl⟩;refine LW.splitA ?_
   refine LW.go uK 6 rfl (LW.cT (cod_Put W B pc 1 _ _ (coK k) rc (c60++(c54++(c50++([cr bs46 21 ([2*((k:Int)+1)].map i32v)]++im)))) ((k:Int)+1) (vsl (bs46,[2*((k:Int)+1)])) [2*((k:Int)+1)] (hc.more fun y hy=>by simp [hy]) (vecRow (bs46,_) (by simp)) hvo rfl hid) cl99 .n2 ?_)
   rintro _ _ ⟨rfl,rc',c64,hc',rfl⟩;refine LW.splitA ?_
   refine LW.go uK 5 rfl (LW.ad (((k+1:Nat):Int)+1) ?_)
   exact LW.go uK 2 rfl (NW.mG ((k+1,rf',ri',rg',rc',c64++(c60++(c54++(c50++([cr bs46 21 ([2*((k:Int)+1)].map i32v)]++im)))))) (by exact⟨⟨by omega,hf'.more fun y hy=>(by simp at hy |-;simp [hy]),hi'.more fun y hy=>(by simp at hy |-;simp [hy]),hg'.more fun y hy=>(by simp at hy |-;simp [hy]),hc'⟩,by omega⟩))
 . have hin:k=5:=oF hc40
   subst hin
   refine CW.go uK 2 rfl (NW.then_exit (NW.go uK 5 rfl (LW.bs [_] underlying25 info21 ?_)))
   intro bs66
   refine LW.cT (flat_Search W B pf 1 (flK 5) rf ([cr bs66 21 ([5].map i32v)]++im) (vsl (bs66,[5])) [5] 2 (hf.more fun y hy=>List.mem_append_right _ hy) (vecRow (bs66,_) (by simp)) (VOk.of rfl) (by decide)) cl75 .n3 ?_
   rintro _ _ ⟨c67,ho67,rfl⟩;rw [flK_S] at ho67;refine LW.splitA (LW.splitB (LW.splitC ?_));rcases ho67 with ⟨_,z0,_,_⟩ | ⟨b67,k67,s67,rfl,_,_,_,rfl⟩;cases z0
   refine LW.go uK 1 rfl (LW.bs [_] underlying25 info21 ?_)
   intro bs69
   refine LW.cT (ivf_Search W B pi 1 _ (ivK 5) ri ([cr bs69 21 ([5].map i32v)]++im) (vsl (bs69,[5])) [5] 2 (hi.more fun y hy=>List.mem_append_right _ hy) (vecRow (bs69,_) (by simp)) (VOk.of rfl) (by decide)) cl76 .n3 ?_
   rintro _ _ ⟨c70,ho70,rfl⟩;obtain⟨A70,cp70,rfl,_,_⟩:=ho70.val;refine LW.splitA (LW.splitB (LW.splitC ?_))
   refine LW.go uK 1 rfl (LW.bs [_] underlying25 info21 ?_)
   intro bs72
   refine LW.cT (gra_Search W B pg 1 (grK 5) rg ([cr bs72 21 ([5].map i32v)]++im) (vsl (bs72,[5])) [5] 2 (hgr.more fun y hy=>List.mem_append_right _ hy) (vecRow (bs72,_) (by simp)) (VOk.of rfl) (by decide)) cl77 .n3 ?_
   rintro _ _ ⟨c73,ho73,rfl⟩;obtain⟨g1,g2,hg2⟩:=two_of grK_S;rw [hg2] at ho73;refine LW.splitA (LW.splitB (LW.splitC ?_));rcases ho73 with ⟨_,z0,_,_⟩ | ⟨b73,k73,s73,rfl,_,_,_,rfl⟩;cases z0
   refine LW.go uK 1 rfl (LW.bs [_] underlying25 info21 ?_)
   intro bs75
   refine LW.cT (cod_Search W B pc 1 _ _ (coK 5) rc ([cr bs75 21 ([5].map i32v)]++im) (vsl (bs75,[5])) [5] 2 (hc.more fun y hy=>List.mem_append_right _ hy) (vecRow (bs75,_) (by simp)) (VOk.of rfl) (by decide)) cl78 .n3 ?_
   rintro _ _ ⟨c76,ho76,rfl⟩;obtain⟨d1,d2,hd2⟩:=two_of coK_S;rw [hd2] at ho76;refine LW.splitA (LW.splitB (LW.splitC ?_));rcases ho76 with ⟨_,z0,_,_⟩ | ⟨b76,k76,s76,rfl,_,_,_,rfl⟩;cases z0
   refine LW.go uK 8 rfl (LW.cT (idx_New W B 1 1 1 [] (.slice none 0 0) [] (by decide) (by decide) (.inl rfl) (by decide) (by decide) ⟨SlAt.nil,fun x hx=>(by cases hx)⟩ (by decide) (fun x hx=>by cases hx)) cl93 ((Take.none _)) ?_)
   rintro _ _ ⟨px,rx,bx,rfl,hx,rfl⟩;refine LW.splitA ?_
   refine LW.go uK 11 rfl (LW.ifaceNotNil _ rfl underlying43 (.inl ⟨rfl,rfl⟩) rfl ?_)
   refine LW.go uK 4 rfl (LW.pn underlying91 ?_)
   refine LW.go uK 5 rfl (LW.bs [_] underlying25 info21 ?_)
   intro bs89
   refine LW.go uK 1 rfl (LW.cT (idx_Put W B ht px _ rx ([cr bs89 21 ([7].map i32v)]++(bx++[])) 3 (vsl (bs89,[7])) [7] 0 (hx.more fun y hy=>by simp [hy]) (vecRow (bs89,_) (by simp)) rfl (by unfold IdOk;omega) (by decide) (fun g h=>by cases h)) cl49 .n3 ?_)
   rintro _ _ ⟨rfl,rx',c90,hx',rfl⟩;refine LW.splitA ?_
   refine LW.go uK 1 rfl (LW.ifaceNotNil _ rfl underlying43 (.inl ⟨rfl,rfl⟩) rfl ?_)
   refine LW.go uK 9 rfl (LW.bs [_] underlying25 info21 ?_)
   intro bs95
   refine LW.cT (idx_Search W B px _ rx' ([cr bs95 21 ([6].map i32v)]++(c90++([cr bs89 21 ([7].map i32v)]++(bx++[])))) (vsl (bs95,[6])) [6] 1 (hx'.more fun y hy=>List.mem_append_right _ hy) (vecRow (bs95,_) (by simp)) rfl (by decide)) cl36 .n3 ?_
   rintro _ _ ⟨u96,c96,rfl,ho96,rfl⟩;rw [show idxS (idxPut (idxNew 1 1 1 ((mayOf 1 []).map (·.2))) 3 [7] 0) [6] 1=[(3,1)] from flX_S] at ho96;refine LW.splitA ?_;rcases ho96 with ⟨_,z0,_,_⟩ | ⟨b96,k96,s96,rfl,_,_,_,rfl⟩;cases z0
   refine LW.go uK 9 rfl (LW.eT (law_Begun7 W B h0 hg) cl307 ((Take.none _)) ?_)
   refine LW.go uK 6 rfl (LW.eql true rfl rfl (rfl) rfl ?_)
   refine LW.go uK 5 rfl (LW.indexAddr (0) rfl rfl underlying37 ixs37 (by decide) (by decide) (rfl) rfl ?_)
   refine LW.go uK 1 rfl (LW.loadAgg (hitC (2,1)) rfl .t (hits_row (i:=0) rfl) underlying72 rfl (sze szt72) rfl ?_)
   refine LW.go uK 1 rfl (LW.bd [_,_] (#[.int .i64 2,.int .i64 1]) ?_)
   refine LW.go uK 1 rfl (LW.hitEql (x:=(2,1)) (y:=(2,1)) true rfl rfl rfl rfl ?_)
   refine LW.go uK 5 rfl (LW.indexAddr (2) rfl rfl underlying37 ixs37 (by decide) (by decide) (rfl) rfl ?_)
   refine LW.go uK 1 rfl (LW.loadAgg (hitC (3,1)) rfl .t (hits_row (i:=1) rfl) underlying72 rfl (sze szt72) rfl ?_)
   refine LW.go uK 1 rfl (LW.bd [_,_] (#[.int .i64 3,.int .i64 1]) ?_)
   refine LW.go uK 1 rfl (LW.hitEql (x:=(3,1)) (y:=(3,1)) true rfl rfl rfl rfl ?_)
   refine LW.go uK 7 rfl (LW.eql true rfl rfl (beq_iff_eq.2 (congrArg Int.ofNat ivK_S)) rfl ?_)
   refine LW.go uK 7 rfl (LW.eql true rfl rfl (rfl) rfl ?_)
   refine LW.go uK 5 rfl (LW.indexAddr (0) rfl rfl underlying37 ixs37 (by decide) (by simp) (rfl) rfl ?_)
   refine LW.go uK 3 rfl (LW.load (v:=.int .i64 2) rfl .t (rfl) one3 rfl ?_)
   refine LW.go uK 1 rfl (LW.eql true rfl rfl (rfl) rfl ?_)
   refine LW.go uK 7 rfl (LW.eql true rfl rfl (rfl) rfl ?_)
   refine LW.go uK 5 rfl (LW.indexAddr (0) rfl rfl underlying37 ixs37 (by decide) (by simp) (rfl) rfl ?_)
   refine LW.go uK 3 rfl (LW.load (v:=.int .i64 2) rfl .t (rfl) one3 rfl ?_)
   refine LW.go uK 1 rfl (LW.eql true rfl rfl (rfl) rfl ?_)
   refine LW.go uK 5 rfl (LW.ifaceNil _ rfl underlying43 (.inl ⟨rfl,rfl⟩) rfl ?_)
   refine LW.go uK 7 rfl (LW.eql true rfl rfl (rfl) rfl ?_)
   refine LW.go uK 5 rfl (LW.indexAddr (0) rfl rfl underlying37 ixs37 (by decide) (by decide) (rfl) rfl ?_)
   refine LW.go uK 1 rfl (LW.loadAgg (hitC (3,1)) rfl .t (hits_row (i:=0) rfl) underlying72 rfl (sze szt72) rfl ?_)
   refine LW.go uK 1 rfl (LW.bd [_,_] (#[.int .i64 3,.int .i64 1]) ?_)
   refine LW.go uK 1 rfl (LW.hitEql (x:=(3,1)) (y:=(3,1)) true rfl rfl rfl rfl ?_)
   refine LW.go uK 3 rfl (LW.eT (idx_Blocks W B 3 9 (by decide) (by decide) (by decide)) cl154 ((Take.none _)) ?_)
   refine LW.go uK 1 rfl (LW.eql true rfl rfl (rfl) rfl ?_)
   refine LW.go uK 5 rfl ?_
   refine NW.r1 ⟨_,⟨rfl,rfl⟩,?_⟩
   exact Sub.nil _
end
open Go.RowKit
def it18:ItemP:=⟨3,[5],[112,97,121],1,false⟩
def s18:StoP:=[(3,it18)]
def x18:IdxP:=⟨1,1,.flat [(3,[5])]⟩
def mK:Nat->MovP
 | 0=>movNew 3 1 1 s18
 | k+1=>(movStep (mK k) x18 s18 k).2
def wK:Nat->Int
 | 0=>0
 | k+1=>(movStep (mK k) x18 s18 k).1
theorem mK_pa:∀ k,k<6->(mK k).paused=false:=by decide +kernel
theorem mK_ph:∀ k,k<6->(mK k).phase=1\/(mK k).phase=2\/(mK k).phase=3:=by decide +kernel
theorem mK_q:∀ k,k<6->(mK k).queue=[]:=by decide +kernel
theorem mK_0:∀ k,k<6->(mK k).phase=1->k=0:=by decide +kernel
theorem mK_pr:∀ k,k<6->probeAt s18 k=some it18:=by decide +kernel
theorem mK_dim:∀ k,k<6->(mK k).now.dim=1:=by decide +kernel
theorem mK_tm:∀ k,k<6->(mK k).tried<50/\(mK k).missed<50:=by decide +kernel
theorem wK_0:∀ k,k<6->wK k=0:=by decide +kernel
theorem wK_6:wK 6=1:=by decide +kernel
theorem mK_6:(mK 6).phase=0/\(idxIds (mK 6).now).length=1:=by decide +kernel
theorem s18_items:stoItems s18=[it18]:=by decide +kernel
theorem s18_next {a:Int}{x:ItemP}(h:stoNext s18 a=some x):x=it18:=by
 unfold stoNext at h
 have:=List.mem_of_find?_eq_some h
 rw [s18_items] at this
 simpa using this
theorem s18_3:stoNext s18 3=none:=by decide +kernel
theorem mK_fill:FillOk s18 0 4 { mK 0 with has:=min ((mK 0).has+1) 2 }:=by
 intro i hi
 obtain rfl:=s18_next hi
 refine⟨rfl,by unfold IdOk it18;simp,fun g hg=>?_,fun j hj=>?_⟩
 . injection hg with hg
   subst hg
   rfl
 . have:stoNext s18 3=some j:=hj
   rw [s18_3] at this
   cases this
theorem mK_next {k:Nat}(h:k<6):(mK k).phase=3->∃ x,probeAt s18 k=some x/\mayV x.vec (x18.dim:Int)=true/\mayV x.vec ((mK k).now.dim:Int)=true/\(mK k).tried<50/\(mK k).missed<50:=fun _=>
 ⟨it18,mK_pr k h,rfl,by rw [mK_dim k h];rfl,(mK_tm k h).1,(mK_tm k h).2⟩
open Go.RowKit
section
variable (W:World)(B:Nat)
theorem law_Begun13 (h0:0<B)(hg:W.cell? ⟨0,0,none⟩=some (rty 43))(ht:Tab W B):Spec prog W B 202 [] [] (fun v post=>v=.bool true/\post=[]):=by
 refine Spec.eG [] func202 ntmps202 fun w0=>?_
 refine CW.go uK 7 rfl (LW.eT (law_begun13 W B h0 hg ht) cl261 ((Take.none _)) ?_)
 refine LW.go uK 4 rfl ?_
 refine NW.r1 ⟨_,⟨rfl,rfl⟩,?_⟩
 exact Sub.nil _
set_option maxHeartbeats 2000000 in
set_option maxRecDepth 4000 in
theorem law_begun18 (h0:0<B)(hg:W.cell? ⟨0,0,none⟩=some (rty 43))(ht:Tab W B):Spec prog W B 129 [] [] (fun v post=>v=.bool true/\post=[]):=by
 have hid3:IdOk 3:=by unfold IdOk;omega
 refine Spec.eG [] func129 ntmps129 fun w0=>?_
 refine CW.go uK 7 rfl (LW.cT (store_New W B) cl94 ((Take.none _)) ?_)
 rintro _ rs ⟨ps,rfl,hs⟩
 refine LW.cT (que_New W B 5 (by decide) (by decide)) cl178 ((Take.none _)) ?_
 rintro _ rq ⟨pq,rfl,hq⟩
 refine LW.go uK 8 rfl (LW.pn underlying90 ?_)
 refine LW.go uK 4 rfl (LW.pn underlying230 ?_)
 refine LW.go uK 9 rfl (LW.bs [_] underlying25 info21 ?_)
 intro bs27
 refine LW.cT (store_Put W B ps [] rs [cr bs27 21 ([5].map i32v)] 3 (vsl (bs27,[5])) [5] [112,97,121] 1 (hs _) (vecRow (bs27,[5]) (by simp)) (VOk.of rfl) rfl) cl48 .n2 ?_
 rintro _ _ ⟨rfl,rs1,c28,hs1,rfl⟩;replace hs1:StoR W B _ ps s18 rs1:=hs1;refine LW.splitA ?_
 refine LW.go uK 6 rfl (LW.cT (store_Get W B ps s18 rs1 _ 3 hs1) cl35 .n2 ?_)
 rintro _ _ ⟨u31,c31,rfl,hu31,rfl⟩;replace hu31:VecAt W B c31 u31 it18.vec:=hu31;rw [show stoGet s18 3=some it18 from rfl];refine LW.splitA (LW.splitB ?_)
 refine LW.go uK 3 rfl (LW.alloc zero36 rfl ?_)
 intro ba4
 refine LW.sA (itemC u31 it18) szt36 (itemC_one hu31.one it18) ?_
 refine LW.go uK 6 rfl (LW.bd [_] (#[.int .i64 4,.slice none 0 0,.int .u32 0,.bool false]) ?_)
 refine LW.cT (que_Put W B pq 5 [] rq [] (.slice none 0 0) ⟨4,[],0,false⟩ (hq _) VecAt.none (VOk.of rfl) (by decide)) cl173 (Take.both .t (Take.none _)) ?_
 rintro _ _ ⟨rfl,rq1,c36,hq1,rfl⟩;refine LW.splitA ?_
 refine LW.go uK 6 rfl (LW.cG (que_Take W B pq 5 ⟨4,[],0,false⟩ [] rq1 _ hq1) cl200 ?_)
 rintro _ _ ⟨⟨u39,rfl,hu39⟩,rfl⟩
 refine LW.go uK 3 rfl (LW.alloc zero120 rfl ?_)
 intro ba7
 refine LW.sA (chaC u39 ⟨4,[],0,false⟩) szt120 (chaC_one hu39.one ⟨4,[],0,false⟩) ?_
 refine LW.go uK 5 rfl (LW.eT (bkt_New W B 2 1 (by decide) (by decide)) cl179 ((Take.none _)) ?_)
 refine LW.eT (bkt_Take W B 2 1 2 (by decide) (by decide) (by decide)) cl171 ((Take.none _)) ?_
 refine LW.go uK 3 rfl (LW.alloc zero232 rfl ?_)
 intro ba9
 refine LW.sA (bktC 2 1 1) szt232 (bktC_one 2 1 1) ?_
 refine LW.go uK 5 rfl (LW.build (vs:=[]) (#[.int .i64 0,.int .i64 0]) trivial (by kernel_rfl) rfl ?_)
 refine LW.bd [_,_] (#[.int .i64 1,.int .i64 4]) ?_
 refine LW.buildSliceA [hitC (1,4)] ⟨rfl,trivial⟩ rfl (by intro v hv;simp at hv;subst hv;rfl) (by decide) underlying37 info72 rfl (by decide) (by decide) rfl ?_
 intro bs49
 refine LW.eT (sha_Add W B 0 0 (by decide) (by decide) (.slice (sA bs49) 1 1) (.slice none 0 0) [(1,4)] [] [cr bs49 72 (hitsC [(1,4)])] [] (OwnS.row rfl) OwnS.nil) cl201 (Take.both .t (Take.none _)) ?_
 refine LW.alloc zero234 rfl ?_
 intro ba11
 refine LW.sA ([.int .i64 1,.int .i64 1]) szt234 (tal_one 1 1) ?_
 refine LW.go uK 4 rfl (LW.cT (idx_New W B 1 1 1 [] (.slice none 0 0) [] (by decide) (by decide) (.inl rfl) (by decide) (by decide) ⟨SlAt.nil,fun x hx=>(by cases hx)⟩ (by decide) (fun x hx=>by cases hx)) cl93 ((Take.none _)) ?_)
 rintro _ _ ⟨px,rx,bx,rfl,hx,rfl⟩;refine LW.splitA ?_
 refine LW.go uK 11 rfl (LW.ifaceNotNil _ rfl underlying43 (.inl ⟨rfl,rfl⟩) rfl ?_)
 refine LW.go uK 4 rfl (LW.pn underlying91 ?_)
 refine LW.go uK 5 rfl (LW.bs [_] underlying25 info21 ?_)
 intro bs63
 refine LW.go uK 1 rfl (LW.cT (idx_Put W B ht px _ rx ([cr bs63 21 ([5].map i32v)]++(bx++[])) 3 (vsl (bs63,[5])) [5] 0 (hx.more fun y hy=>by simp [hy]) (vecRow (bs63,_) (by simp)) rfl hid3 (by decide) (fun g h=>by cases h)) cl49 .n3 ?_)
 rintro _ _ ⟨rfl,rx',c64,hx',rfl⟩;replace hx':IdxR W B _ px x18 rx':=hx';refine LW.splitA ?_
 refine LW.go uK 1 rfl (LW.ifaceNotNil _ rfl underlying43 (.inl ⟨rfl,rfl⟩) rfl ?_)
 refine LW.go uK 10 rfl ?_
 refine LW.front (p:=c64++([cr bs63 21 ([5].map i32v)]++(bx++[]))) .t (LW.front (p:=c28++[cr bs27 21 ([5].map i32v)]) .t (LW.unfoc (a:=(c28++[cr bs27 21 ([5].map i32v)])++(c64++([cr bs63 21 ([5].map i32v)]++(bx++[])))) (List.Perm.refl _) ?_))
 replace hs1:=hs1.more (im':=(c28++[cr bs27 21 ([5].map i32v)])++(c64++([cr bs63 21 ([5].map i32v)]++(bx++[])))) fun y hy=>List.mem_append_left _ hy
 replace hx':=hx'.more (im':=(c28++[cr bs27 21 ([5].map i32v)])++(c64++([cr bs63 21 ([5].map i32v)]++(bx++[])))) fun y hy=>List.mem_append_right _ hy
 generalize (c28++[cr bs27 21 ([5].map i32v)])++(c64++([cr bs63 21 ([5].map i32v)]++(bx++[])))=im at hs1 hx' |-
 refine LW.cT (mov_New W B 3 1 1 px ps x18 s18 rx' rs1 im hx' hs1 (by decide) (by decide) (.inl rfl) (by decide) (by decide) (by decide) (fun a x h=>by rw [s18_next h];rfl)) cl108 .n3 ?_
 rintro _ _ ⟨pm,rm,bm,rfl,hm,rfl⟩;replace hm:MovR W B _ pm px (mK 0) rm:=hm;refine LW.splitA (LW.splitB (LW.splitC (LW.splitD ?_)))
 refine LW.front (p:=im) .t (LW.front (p:=bm) .t (LW.unfoc (a:=bm++im) (List.Perm.refl _) ?_))
 replace hs1:=hs1.more (im':=bm++im) fun y hy=>List.mem_append_right _ hy
 replace hx':=hx'.more (im':=bm++im) fun y hy=>List.mem_append_right _ hy
 replace hm:=hm.more (im':=bm++im) fun y hy=>List.mem_append_left _ hy
 generalize bm++im=im at hs1 hx' hm |-
 refine LW.go uK 11 rfl (LW.ifaceNotNil _ rfl underlying43 (.inl ⟨rfl,rfl⟩) rfl ?_)
 refine LW.go uK 4 rfl (LW.pn underlying112 ?_)
 refine LW.go uK 18 rfl ?_
 refine CW.loopG (fun st:Nat×List Row×List Row=>[(1,ptr ps),(3,.nilIface),(4,ptr ba4),(5,.bool true),(6,.nilIface),(7,ptr ba7),(8,.bool true),(9,ptr ba9),(10,.bool true),(11,ptr ba11),(12,ptr px),(14,ptr pm),(15,.nilIface),(16,.int .i64 (wK st.1)),(17,.int .i64 (st.1:Int))]) (fun st=>[st.2.1,rx',rs1,st.2.2,[cr ba4 36 (itemC u31 it18)],[cr ba7 120 (chaC u39 ⟨4,[],0,false⟩)],[cr ba9 232 (bktC 2 1 1)],[cr ba11 234 [.int .i64 1,.int .i64 1]]]) (fun st=>st.1<=6/\MovR W B st.2.2 pm px (mK st.1) st.2.1/\IdxR W B st.2.2 px x18 rx'/\StoR W B st.2.2 ps s18 rs1) (fun st=>6-st.1) (0,rm,im) (by exact⟨Nat.zero_le _,hm,hx',hs1⟩) rfl (by repeat' constructor) ?_
 rintro⟨k,rm,im⟩ ⟨hk,hm,hx',hs1⟩;dsimp only at hk hm hx' hs1 |-
 refine CW.go uK 3 rfl ?_
 by_cases hk6:k<6
 . refine LW.go uK 1 rfl (LW.lssT ?_)
   refine LW.go uK 4 rfl (LW.eql true rfl rfl (beq_iff_eq.2 (wK_0 k hk6)) rfl ?_)
   refine LW.go uK 11 rfl (LW.convInt ((k:Int)) rfl underlying3 underlying30 (by rw [wrap_u32];omega) rfl ?_)
   refine LW.go uK 1 rfl (LW.cT (mov_Step W B ht pm px ps (mK k) x18 s18 k rm rx' rs1 im hm hx' hs1 (by omega) (mK_pa k hk6) (mK_ph k hk6) (mK_q k hk6) (fun h=>by obtain rfl:=mK_0 k hk6 h;exact mK_fill) (mK_next hk6)) cl180 .n4 ?_)
   rintro _ _ ⟨rfl,rm',ch,hm',rfl⟩;refine LW.splitA (LW.splitB (LW.splitC ?_))
   refine LW.go uK 10 rfl (LW.ad (((k+1:Nat):Int)) ?_)
   exact LW.go uK 2 rfl (NW.mG ((k+1,rm',ch++im)) (by exact⟨⟨by omega,hm',hx'.more fun y hy=>List.mem_append_right _ hy,hs1.more fun y hy=>List.mem_append_right _ hy⟩,by dsimp only;omega⟩))
 . refine LW.go uK 1 rfl (LW.lssT ?_)
   refine LW.go uK 4 rfl (LW.eql false rfl rfl (by rw [show k=6 by omega,wK_6];rfl) rfl ?_)
   refine LW.go uK 6 rfl (NW.then_exit (NW.go uK 4 rfl (LW.eT (law_Begun13 W B h0 hg ht) cl202 ((Take.none _)) ?_)))
   refine LW.go uK 4 rfl (LW.ifaceNil _ rfl underlying43 (.inl ⟨rfl,rfl⟩) rfl ?_)
   refine LW.go uK 9 rfl (LW.load (v:=strV [112,97,121]) rfl .t (rfl) one9 rfl ?_)
   refine LW.go uK 1 rfl (LW.strEql (true) rfl rfl underlying9 (rfl) rfl ?_)
   refine LW.go uK 5 rfl (LW.load (v:=.int .i64 1) rfl .t (rfl) one2 rfl ?_)
   refine LW.go uK 1 rfl (LW.eqlT ?_)
   refine LW.go uK 5 rfl (LW.ifaceNil _ rfl underlying43 (.inl ⟨rfl,rfl⟩) rfl ?_)
   refine LW.go uK 5 rfl (LW.load (v:=.int .i64 4) rfl .t (rfl) one3 rfl ?_)
   refine LW.go uK 1 rfl (LW.eqlT ?_)
   refine LW.go uK 13 rfl (LW.load (v:=.int .i64 1) rfl .t (rfl) one3 rfl ?_)
   refine LW.go uK 1 rfl (LW.eqlT ?_)
   refine LW.go uK 5 rfl (LW.load (v:=.int .i64 1) rfl .t (rfl) one3 rfl ?_)
   refine LW.go uK 1 rfl (LW.eqlT ?_)
   refine LW.go uK 5 rfl (LW.eql true rfl rfl (by rw [show k=6 by omega,wK_6];rfl) rfl ?_)
   refine LW.go uK 5 rfl (LW.ifaceNil _ rfl underlying43 (.inl ⟨rfl,rfl⟩) rfl ?_)
   refine LW.go uK 5 rfl (LW.cG (mov_To W B pm px (mK k) rm im hm) cl181 ?_)
   rintro _ _ ⟨q,rm2,rn,rfl,hn,hperm,hpost⟩;rw [hpost];clear hpost;refine LW.foc hperm.symm ?_
   refine LW.go uK 1 rfl (LW.cG (idx_Ids W B q (mK k).now rn im hn) cl203 ?_)
   rintro _ _ ⟨c149,ho149,rfl⟩;obtain⟨A149,cp149,rfl,_,_⟩:=ho149.val;refine LW.splitA (LW.front (p:=rm2) .t (LW.front (p:=rn) .t (LW.unfoc hperm.symm ?_)))
   refine LW.go uK 3 rfl (LW.eql true rfl rfl (by rw [show k=6 by omega];exact beq_iff_eq.2 (congrArg Int.ofNat mK_6.2)) rfl ?_)
   refine LW.go uK 5 rfl (LW.eT (mov_Status W B pm px (mK k) x18 rm rx' im hm hx') cl71 .n2 ?_)
   refine LW.go uK 1 rfl (LW.fieldV rfl (fun _=>fv39_0 _ _ _ _ _ _ _ _ _ _ _ _ _ _) rfl ?_)
   refine LW.go uK 1 rfl (LW.eql true rfl rfl (by rw [show k=6 by omega,mK_6.1];rfl) rfl ?_)
   refine LW.go uK 5 rfl ?_
   refine NW.r1 ⟨_,⟨rfl,rfl⟩,?_⟩
   exact Sub.nil _
end
open Go.RowKit Go.MapKept
section
variable {κ:Type}[DecidableEq κ]{enc:κ->Value}
def kv (x:MapEntry):Value×Value:=(x.key,x.val)
theorem dec_filter (x:MapEntry):∀ (T:List MapEntry) (l:List (κ×Value)),T.map kv=mrep enc l->(T.map (·.born)).Nodup->x∈T ->
  ∃ y l',x.key=enc y.1/\x.val=y.2/\l.Perm (y::l')/\(T.filter fun z=>z.born != x.born).map kv=mrep enc l'
 | [],_,_,_,hx=>by cases hx
 | t::T,[],h,_,_=>by cases h
 | t::T,(k,u)::l,h,hn,hx=>by
  simp only [List.map_cons,mrep,List.cons.injEq] at h
  obtain⟨h1,h2⟩:=have _i:=‹DecidableEq κ›;h
  simp only [List.map_cons,List.nodup_cons] at hn
  have hall:∀ z∈T,z.born≠t.born:=fun z hz he=>hn.1 (he ▸ List.mem_map.2 ⟨z,hz,rfl⟩)
  rcases List.mem_cons.1 hx with rfl | hx
  . refine⟨(k,u),l,congrArg Prod.fst h1,congrArg Prod.snd h1,List.Perm.refl _,?_⟩
    have hf:T.filter (fun z=>z.born != x.born)=T:=List.filter_eq_self.2 fun z hz=>by simpa using hall z hz
    rw [List.filter_cons,if_neg (by simp),hf]
    exact h2
  . obtain⟨y,l',a1,a2,a3,a4⟩:=dec_filter x T l h2 hn.2 hx
    refine⟨y,(k,u)::l',a1,a2,(List.Perm.cons _ a3).trans (List.Perm.swap _ _ _),?_⟩
    rw [List.filter_cons,if_pos (by simpa using (hall x hx).symm),List.map_cons,a4]
    simp only [mrep,List.map_cons]
    rw [h1]
def IterR (enc:κ->Value)(v:Value)(ch:List Row)(r:Nat)(todo:List (κ×Value))(row:List Row):Prop:=
 ∃ b es clock seen c0,v=.map (some b)/\ch=[⟨b,.map es clock⟩]/\Stamped es clock/\row=[⟨r,.mapIter (some b) clock seen c0⟩]/\clock<=c0/\(leftOf es seen).toList.map kv=mrep enc todo
def IterAt (enc:κ->Value)(v:Value)(ch:List Row)(r:Nat)(y:κ×Value)(todo:List (κ×Value))(row:List Row):Prop:=
 ∃ (b:Nat) (es:Array MapEntry) (clock:Nat) (seen:Array Nat) (x:MapEntry),v=.map (some b)/\ch=[⟨b,.map es clock⟩]/\Stamped es clock/\row=[⟨r,.mapIter (some b) clock (seen.push x.born) clock⟩]/\x∈es.toList/\x.key=enc y.1/\x.val=y.2/\(leftOf es (seen.push x.born)).toList.map kv=mrep enc todo
theorem IterAt.on {v:Value}{ch:List Row}{r:Nat}{y:κ×Value}{todo:List (κ×Value)}{row:List Row}(h:IterAt enc v ch r y todo row):IterR enc v ch r todo row:=by
 have _i:=‹DecidableEq κ›
 obtain⟨b,es,clock,seen,x,h1,h2,h3,h4,_,_,_,h5⟩:=h
 exact⟨b,es,clock,_,clock,h1,h2,h3,h4,Nat.le_refl _,h5⟩
theorem left_push (es:Array MapEntry)(seen:Array Nat)(b:Nat):(leftOf es (seen.push b)).toList=(leftOf es seen).toList.filter fun z=>z.born != b:=by
 unfold leftOf
 rw [Array.toList_filter,Array.toList_filter,List.filter_filter]
 congr 1
 funext z
 simp only [Array.contains_push]
 cases seen.contains z.born<;>simp [bne]
theorem left_sub (es:Array MapEntry)(seen:Array Nat):(leftOf es seen).toList.Sublist es.toList:=by
 unfold leftOf
 rw [Array.toList_filter]
 exact List.filter_sublist
end
section
variable {κ:Type}[DecidableEq κ]{enc:κ->Value}
variable {P:Program}{n:Nat}{c:Ctx}{Q:Exit->Act->World->Prop}{e:Env}{h:Heap}{ops:Array Oper}{rest:List Oper}{d ty:Nat}{pos:String}{af:Array Edge}
theorem LW.rangeG {t kt et:Nat}{x:Operand}{v:Value}{l:List (κ×Value)}{ch:List Row}{h':Heap}(hx:e.ev x=some v)(o:OwnMap enc v l ch)(tk:Take ch h h')(ht:P.underlying t=some (.map kt et))(hd:Nat.blt d n=true)
  (k:∀ r row,IterR enc v ch r l row->LW P n c ops Q rest ((d,ptr r)::e) (row::h)):LW P n c ops Q (⟨some d,.range t x,ty,pos,af,none⟩::rest) e h:=by
 have _i:=‹DecidableEq κ›
 obtain⟨b,es,clock,rfl,rfl,hst,hes⟩:=o
 refine LW.rangeM hx tk ht hd fun r=>k r _ ⟨b,es,clock,#[],clock,rfl,rfl,hst,rfl,Nat.le_refl _,?_⟩
 have:(leftOf es #[]).toList=es.toList:=by
  unfold leftOf
  rw [Array.toList_filter]
  exact List.filter_eq_self.2 fun z _=>by simp
 rw [this]
 exact hes
theorem LW.nextG {it:Operand}{v:Value}{ch row:List Row}{r:Nat}{todo:List (κ×Value)}{h1 h2:Heap}(hx:e.ev it=some (ptr r))(o:IterR enc v ch r todo row)(tk1:Take ch h h1)(tk2:Take row h h2)(hd:Nat.blt d n=true)
   (k:∀ v' h',(todo=[]/\v'=.tuple #[.bool false]/\h'=h)\/(∃ y todo' row',todo.Perm (y::todo')/\IterAt enc v ch r y todo' row'/\v'=.tuple #[.bool true,enc y.1,y.2]/\h'=row'::h2)->LW P n c ops Q rest ((d,v')::e) h') :
   LW P n c ops Q (⟨some d,.next it false,ty,pos,af,none⟩::rest) e h:=by
 obtain⟨b,es,clock,seen,c0,rfl,rfl,hst,rfl,hc0,hes⟩:=o
 refine LW.nextM hx tk1 tk2 hst.1 hc0 hd fun v' h' hv=>?_
 rcases hv with ⟨hz,rfl,rfl⟩ | ⟨x,hxm,rfl,rfl⟩
 . refine k _ _ (.inl ⟨?_,rfl,rfl⟩)
   have h0:(leftOf es seen).toList=[]:=List.eq_nil_of_length_eq_zero (by rw [Array.length_toList];exact hz)
   rw [h0] at hes
   cases todo with
   | nil=>rfl
   | cons a b=>cases hes
 . have hn:((leftOf es seen).toList.map (·.born)).Nodup:=List.Sublist.nodup ((left_sub es seen).map _) hst.2.1
   obtain⟨y,l',a1,a2,a3,a4⟩:=dec_filter x _ todo hes hn hxm
   exact k _ _ (.inr ⟨y,l',_,a3,⟨b,es,clock,seen,x,rfl,rfl,hst,rfl,left_mem hxm,a1,a2,by rw [left_push];exact a4⟩,by rw [a1,a2],rfl⟩)
theorem LW.entryG {it:Operand}{v:Value}{ch row:List Row}{r:Nat}{y:κ×Value}{todo:List (κ×Value)}{h1 h2:Heap}(hx:e.ev it=some (ptr r))(o:IterAt enc v ch r y todo row)(tk1:Take ch h h1)(tk2:Take row h h2)(hd:Nat.blt d n=true)
  (k:LW P n c ops Q rest ((d,.tuple #[enc y.1,y.2])::e) h):LW P n c ops Q (⟨some d,.entry it,ty,pos,af,none⟩::rest) e h:=by
 have _i:=‹DecidableEq κ›
 obtain⟨b,es,clock,seen,x,rfl,rfl,hst,rfl,hxm,a1,a2,_⟩:=o
 refine LW.entryM hx tk1 tk2 hxm hst.2.1 hd ?_
 rw [a1,a2]
 exact k
end
open Go.RowKit
def colC (x:ColP)(ps px:Nat):List Value:=[.int .i64 (x.place:Int),.int .i64 (x.dim:Int),.int .i64 x.metric,ptr ps,ptr px]
def ColR (W:World)(B:Nat)(im:List Row)(q:Nat)(x:ColP)(rows:List Row):Prop:=
 ∃ ps px rs rx,StoR W B im ps x.s rs/\IdxR W B im px x.x rx/\rows=[cr q 93 (colC x ps px)]++(rs++rx)/\x.x.dim=x.dim/\(∃ l,x.x.x=.flat l)/\x.place<4
theorem ColR.more {W:World}{B:Nat}{im im':List Row}{q:Nat}{x:ColP}{rows:List Row}(h:ColR W B im q x rows)(hx:∀ y∈im,y∈im'):ColR W B im' q x rows:=by
 obtain⟨ps,px,rs,rx,h1,h2,h3⟩:=h
 exact⟨ps,px,rs,rx,h1.more hx,h2.more hx,h3⟩
theorem ColR.ok {W:World}{B:Nat}{im:List Row}{q:Nat}{x:ColP}{rows:List Row}(h:ColR W B im q x rows):x.place<4/\x.x.x.kind=1:=by
 obtain⟨ps,px,rs,rx,h1,h2,h3,h4,⟨l,hl⟩,h6⟩:=h
 exact⟨h6,by rw [hl];rfl⟩
def ColsR (W:World)(B:Nat)(im:List Row):List (Nm×Nat)->List (Nm×ColP)->List (List Row)->Prop
 | [],[],[]=>True
 | e::es,x::g,c::cs=>e.1=x.1/\ColR W B im e.2 x.2 c/\ColsR W B im es g cs
 | _,_,_=>False
def esC (es:List (Nm×Nat)):List (Nm×Value):=es.map fun x=>(x.1,ptr x.2)
section
variable {W:World}{B:Nat}{im im':List Row}
theorem ColsR.more (hx:∀ x∈im,x∈im'):∀ {es:List (Nm×Nat)} {g:List (Nm×ColP)} {cs:List (List Row)},ColsR W B im es g cs->ColsR W B im' es g cs
 | [],[],[],_=>trivial
 | [],_::_,_,h=>h.elim
 | [],[],_::_,h=>h.elim
 | _::_,[],_,h=>h.elim
 | _::_,_::_,[],h=>h.elim
 | _::_,_::_,_::_,⟨h1,h2,h3⟩=>⟨h1,h2.more hx,ColsR.more hx h3⟩
theorem ColsR.keys:∀ {es:List (Nm×Nat)} {g:List (Nm×ColP)} {cs:List (List Row)},ColsR W B im es g cs->(esC es).map (·.1)=g.map (·.1)/\cs.length=g.length
 | [],[],[],_=>⟨rfl,rfl⟩
 | [],_::_,_,h=>h.elim
 | [],[],_::_,h=>h.elim
 | _::_,[],_,h=>h.elim
 | _::_,_::_,[],h=>h.elim
 | _::_,_::_,_::_,⟨h1,_,h3⟩=>by have:=ColsR.keys h3;simp only [esC,List.map_cons,List.length_cons] at this |-;exact⟨by rw [h1,this.1],by rw [this.2]⟩
theorem ColsR.get {id:Nm}{nd:ColP}:∀ {es:List (Nm×Nat)} {g:List (Nm×ColP)} {cs:List (List Row)},ColsR W B im es g cs->aget g id=some nd ->
  ∃ i b c,mget (esC es) id=some (ptr b)/\cs[i]?=some c/\ColR W B im b nd c/\∀ nd' c',ColR W B im b nd' c'->ColsR W B im es (aset g id nd') (cs.set i c')
 | [],[],[],_,h=>by cases h
 | [],_::_,_,h,_=>h.elim
 | [],[],_::_,h,_=>h.elim
 | _::_,[],_,h,_=>h.elim
 | _::_,_::_,[],h,_=>h.elim
 | (a,b)::es,(a',x)::g,c::cs,⟨h1,h2,h3⟩,ha=>by
  simp only at h1 h2
  subst h1
  simp only [aget] at ha
  simp only [esC,List.map_cons,mget]
  by_cases he:a=id
  . rw [if_pos he] at ha;cases ha
    refine⟨0,b,c,by rw [if_pos he],rfl,h2,fun nd' c' h=>?_⟩
    simp only [aset,if_pos he]
    exact⟨rfl,h,h3⟩
  . rw [if_neg he] at ha
    obtain⟨i,b',c',a1,a2,a3,a4⟩:=ColsR.get h3 ha
    refine⟨i+1,b',c',by rw [if_neg he];exact a1,by simpa using a2,a3,fun nd' c'' h=>?_⟩
    simp only [aset,if_neg he]
    exact⟨rfl,h2,a4 nd' c'' h⟩
theorem ColsR.miss {id:Nm}{es:List (Nm×Nat)}{g:List (Nm×ColP)}{cs:List (List Row)}(h:ColsR W B im es g cs)(ha:aget g id=none):mget (esC es) id=none:=by
 refine mget_none fun x hx he=>?_
 have h1:x.1∈(esC es).map (·.1):=List.mem_map.2 ⟨x,hx,rfl⟩
 rw [h.keys.1,he] at h1
 exact aget_none.1 ha h1
theorem ColsR.mem:∀ {es:List (Nm×Nat)} {g:List (Nm×ColP)} {cs:List (List Row)},ColsR W B im es g cs->(g.map (·.1)).Nodup->∀ y∈esC es,∃ b x,y.2=ptr b/\aget g y.1=some x
 | [],[],[],_,_,y,hy=>by cases hy
 | [],_::_,_,h,_,_,_=>h.elim
 | [],[],_::_,h,_,_,_=>h.elim
 | _::_,[],_,h,_,_,_=>h.elim
 | _::_,_::_,[],h,_,_,_=>h.elim
 | (a,b)::es,(a',x)::g,c::cs,⟨h1,h2,h3⟩,hn,y,hy=>by
  simp only at h1
  subst h1
  simp only [esC,List.map_cons,List.mem_cons] at hy
  simp only [List.map_cons,List.nodup_cons] at hn
  rcases hy with rfl | hy
  . exact⟨b,x,rfl,by simp [aget]⟩
  . obtain⟨b',x',h4,h5⟩:=ColsR.mem h3 hn.2 y hy
    refine⟨b',x',h4,?_⟩
    simp only [aget]
    rw [if_neg fun he=>hn.1 ?_,h5]
    rw [he]
    exact List.mem_map.2 ⟨_,aget_mem h5,rfl⟩
end
def corC (mv av:Value)(c:CorP):List Value:=[.int .i64 c.seq,mv,av,np,strV [],.int .i64 c.done,.int .i64 c.aborted,.int .i64 c.failed]
structure CorOk (c:CorP):Prop where
 mv:c.mv=none
 of_:c.of_=[]
 nd:(c.cols.map (·.1)).Nodup
 pl:(c.cols.map (·.2.place)).Nodup
 used:usedP c<=64
 len:c.cols.length<=4
 al:c.alias.length<=6
 s0:0<=c.seq/\c.seq<=1000000000
 sq:∀ y∈c.cols,∀ it∈y.2.s,it.2.seq<=c.seq
def alV (l:List (Nm×Nm)):List (Nm×Value):=l.map fun y=>(y.1,strV y.2)
def CorR (W:World)(B:Nat)(im:List Row)(p:Nat)(c:CorP)(rows:List Row):Prop:=
 ∃ mv chm av cha es cs,OwnMap strV mv (esC es) chm/\ColsR W B im es c.cols cs/\OwnMap strV av (alV c.alias) cha/\rows=[cr p 114 (corC mv av c)]++(chm++(cha++cs.flatten))/\CorOk c
theorem CorR.more {W:World}{B:Nat}{im im':List Row}{p:Nat}{c:CorP}{rows:List Row}(h:CorR W B im p c rows)(hx:∀ y∈im,y∈im'):CorR W B im' p c rows:=by
 obtain⟨mv,chm,av,cha,es,cs,h1,h2,h3⟩:=h
 exact⟨mv,chm,av,cha,es,cs,h1,h2.more hx,h3⟩
theorem CorR.ok {W:World}{B:Nat}{im:List Row}{p:Nat}{c:CorP}{rows:List Row}(h:CorR W B im p c rows):CorOk c:=by
 obtain⟨mv,chm,av,cha,es,cs,h1,h2,h3,h4,h5⟩:=h
 exact h5
theorem alV_get:∀ (l:List (Nm×Nm)) (k:Nm),mget (alV l) k=(aget l k).map strV
 | [],_=>rfl
 | (a,b)::r,k=>by
  simp only [alV,List.map_cons,mget,aget]
  split
  . rfl
  . exact alV_get r k
theorem alV_set:∀ (l:List (Nm×Nm)) (k u:Nm),mset (alV l) k (strV u)=alV (aset l k u)
 | [],_,_=>rfl
 | (a,b)::r,k,u=>by
  simp only [alV,List.map_cons,mset,aset]
  split
  . rfl
  . simp only [List.map_cons,List.cons.injEq,true_and]
    exact alV_set r k u
theorem alV_del:∀ (l:List (Nm×Nm)) (k:Nm),mdel (alV l) k=alV (adel l k)
 | [],_=>rfl
 | (a,b)::r,k=>by
  simp only [alV,List.map_cons,mdel,adel]
  split
  . rfl
  . simp only [List.map_cons,List.cons.injEq,true_and]
    exact alV_del r k
theorem name_no {s:Nm}{i:Nat}{b:UInt8}(hb:s[i]?=some b)(h:letter b=false):nameOk s=false:=by
 unfold nameOk
 rw [Bool.and_eq_false_iff]
 refine .inr ?_
 rw [List.all_eq_false]
 exact⟨b,List.mem_of_getElem? hb,by simp [h]⟩
section
variable {P:Program}{n:Nat}{c:Ctx}{Q:Exit->Act->World->Prop}{e:Env}{h:Heap}{ops:Array Oper}{rest:List Oper}{d ty:Nat}{pos:String}{af:Array Edge}
theorem LW.strIdx {t:Nat}{x y:Operand}{s:Nm}{i:Nat}{b:UInt8}(hx:e.ev x=some (strV s))(hy:e.ev y=some (.int .i64 (i:Int)))(ht:P.underlying t=some .string)(hb:s[i]?=some b)(hd:Nat.blt d n=true)(k:LW P n c ops Q rest ((d,.int .u8 (b.toNat:Int))::e) h) :
  LW P n c ops Q (⟨some d,.index t x y,ty,pos,af,none⟩::rest) e h:=
 LW.val _ hd (fun a w hf _=>by
  have h1:(⟨s.toArray⟩:ByteArray)[i]?=some b:=by
   obtain⟨hi,rfl⟩:=List.getElem?_eq_some_iff.1 hb
   rw [getElem?_pos _ i (by show i<s.toArray.size;simpa using hi)]
   simp [ByteArray.getElem_eq_getElem_data]
  have h2:(0:Int)<=(i:Int):=Int.natCast_nonneg i
  simp only [execOp,hf.eval hx,hf.eval hy,Instr.index,asIntOf,strV,Sem.run_bind,Sem.run_pure,Result.andThen_ok,run_underlying ht,h2,if_true,Int.toNat_natCast,h1]) k
end
section
variable (W:World)(B:Nat)
theorem core_New:Spec prog W B 27 [] [] (fun r post=>∃ p,r=ptr p/\∀ im,CorR W B im p CorP.new post):=by
 refine Spec.eG [] func27 ntmps27 fun w0=>?_
 refine CW.go uK 7 rfl (LW.mapMakeG strV rfl ?_)
 intro mv chm hom;obtain⟨bm,hbm⟩:=hom.shape;subst hbm
 refine LW.mapMakeG strV rfl ?_
 intro av cha hoa;obtain⟨ba,hba⟩:=hoa.shape;subst hba
 refine LW.bd [_,_] (#[.int .i64 0,.map (some bm),.map (some ba),np,strV [],.int .i64 0,.int .i64 0,.int .i64 0]) ?_
 refine LW.bx ?_
 intro bb4
 refine LW.go uK 4 rfl ?_
 refine NW.ret1 rfl rfl ⟨_,⟨bb4,rfl,fun im=>⟨_,chm,_,cha,[],[],hom,trivial,hoa,rfl,⟨rfl,rfl,List.nodup_nil,List.nodup_nil,Nat.zero_le _,Nat.zero_le _,Nat.zero_le _,by show (0:Int)<=0/\(0:Int)<=1000000000;omega,fun y hy=>(by cases hy)⟩⟩⟩,?_⟩
 rw [List.flatten_nil,List.append_nil];exact .s3
theorem core_moves (p:Nat)(c:CorP)(rows im:List Row)(s:Nm)(hc:CorR W B im p c rows):Spec prog W B 100 [ptr p,strV s] rows (fun r post=>r=.bool false/\post=rows):=by
 obtain⟨mv,chm,av,cha,es,cs,h1,h2,h3,rfl,h5⟩:=hc
 refine Spec.eG [[cr p 114 (corC mv av c)],chm,cha,cs.flatten] func100 ntmps100 fun w0=>?_
 refine CW.go uK 10 rfl (LW.load (v:=np) rfl .t (rfl) one112 rfl ?_)
 refine LW.ptrNotNil _ rfl underlying112 rfl rfl ?_
 refine LW.go uK 12 rfl ?_
 refine NW.r1 ⟨_,⟨rfl,rfl⟩,?_⟩
 exact .s4
theorem core_thr (p:Nat)(c:CorP)(rows im:List Row)(s:Nm)(hc:CorR W B im p c rows):Spec prog W B 155 [ptr p,strV s] rows (fun r post=>r=.bool false/\post=rows):=by
 refine Spec.eG [rows] func155 ntmps155 fun w0=>?_
 refine CW.go uK 9 rfl (LW.eG (core_moves W B p c rows im s hc) cl100 ?_)
 refine LW.go uK 13 rfl ?_
 refine NW.r1 ⟨_,⟨rfl,rfl⟩,?_⟩
 exact (Sub.one .t)
theorem core_Seq (p:Nat)(c:CorP)(rows im:List Row)(hc:CorR W B im p c rows):Spec prog W B 67 [ptr p] rows (fun r post=>r=.int .i64 c.seq/\post=rows):=by
 obtain⟨mv,chm,av,cha,es,cs,h1,h2,h3,rfl,h5⟩:=hc
 refine Spec.eG [[cr p 114 (corC mv av c)],chm,cha,cs.flatten] func67 ntmps67 fun w0=>?_
 refine CW.go uK 9 rfl (LW.pn underlying60 ?_)
 refine LW.go uK 10 rfl (LW.ld one2 ?_)
 refine LW.go uK 4 rfl ?_
 refine NW.r1 ⟨_,⟨rfl,rfl⟩,?_⟩
 exact .s4
theorem core_name (s:Nm)(hs:s.length<=1000000):Spec prog W B 152 [strV s] [] (fun r post=>r=.bool (nameOk s)/\post=[]):=by
 by_cases h1:s.length<1
 . have h0:nameOk s=false:=by unfold nameOk;simp;omega
   rw [h0]
   refine Spec.eG [] func152 ntmps152 fun w0=>?_
   refine CW.go uK 9 rfl (LW.lenString rfl underlying9 rfl ?_)
   refine LW.lss true rfl rfl (decide_eq_true (by show ((s.length:Nat):Int)<1;omega)) rfl ?_
   refine LW.go uK 15 rfl ?_
   refine NW.r1 ⟨_,⟨rfl,rfl⟩,?_⟩
   exact Sub.nil _
 by_cases h2:s.length>12
 . have h0:nameOk s=false:=by unfold nameOk;simp;omega
   rw [h0]
   refine Spec.eG [] func152 ntmps152 fun w0=>?_
   refine CW.go uK 9 rfl (LW.lenString rfl underlying9 rfl ?_)
   refine LW.lss false rfl rfl (decide_eq_false (by show ¬ ((s.length:Nat):Int)<1;omega)) rfl ?_
   refine LW.go uK 4 rfl (LW.lenString rfl underlying9 rfl ?_)
   refine LW.go uK 1 rfl (LW.gtr true rfl rfl (decide_eq_true (by show ((s.length:Nat):Int)>12;omega)) rfl ?_)
   refine LW.go uK 11 rfl ?_
   refine NW.r1 ⟨_,⟨rfl,rfl⟩,?_⟩
   exact Sub.nil _
 refine Spec.eG [] func152 ntmps152 fun w0=>?_
 refine CW.go uK 9 rfl (LW.lenString rfl underlying9 rfl ?_)
 refine LW.lss false rfl rfl (decide_eq_false (by show ¬ ((s.length:Nat):Int)<1;omega)) rfl ?_
 refine LW.go uK 4 rfl (LW.lenString rfl underlying9 rfl ?_)
 refine LW.go uK 1 rfl (LW.gtr false rfl rfl (decide_eq_false (by show ¬ ((s.length:Nat):Int)>12;omega)) rfl ?_)
 refine LW.go uK 10 rfl (LW.lenString rfl underlying9 rfl ?_)
 refine LW.go uK 4 rfl ?_
 refine CW.loopG (fun i:Nat=>[(14,.int .i64 (i:Int)),(13,.int .i64 (s.length:Int)),(0,strV s)]) (fun _=>[]) (fun i=>i<=s.length/\(s.take i).all letter=true) (fun i=>s.length-i) 0 (by exact⟨Nat.zero_le _,rfl⟩) rfl (by repeat' constructor) ?_
 rintro i ⟨hi,hal⟩
 refine CW.go uK 2 rfl (LW.lss (decide ((i:Int)<(s.length:Int))) rfl rfl (rfl) rfl ?_)
 refine LW.go uK 3 rfl ?_
 refine CW.cond rfl (fun hc15=>?_) (fun hc15=>?_)
 . have hin:i<s.length:=oT hc15
   obtain⟨b,hb,_⟩:=drop_at hin
   have hsn:(s.take (i+1)).all letter=letter b:=by rw [List.take_add_one,hb,List.all_append,hal];simp
   refine CW.go uK 14 rfl (LW.strIdx rfl rfl underlying9 hb rfl ?_)
   by_cases hb1:b<97
   . refine LW.lss true rfl rfl (decide_eq_true (by have:b.toNat<97:=hb1;omega)) rfl ?_
     refine LW.go uK 17 rfl (NW.then_ret ?_)
     refine NW.go uK 2 rfl ?_
     refine NW.ret1 rfl rfl ⟨_,⟨by rw [show nameOk s=false from name_no hb (by unfold letter;simp [hb1])],rfl⟩,?_⟩
     exact Sub.nil _
   . refine LW.lss false rfl rfl (decide_eq_false (by have:¬ b.toNat<97:=hb1;omega)) rfl ?_
     refine LW.go uK 6 rfl (LW.strIdx rfl rfl underlying9 hb rfl ?_)
     by_cases hb2:b>122
     . refine LW.go uK 1 rfl (LW.gtr true rfl rfl (decide_eq_true (by have:122<b.toNat:=hb2;omega)) rfl ?_)
       refine LW.go uK 12 rfl (NW.then_ret ?_)
       refine NW.go uK 2 rfl ?_
       refine NW.ret1 rfl rfl ⟨_,⟨by rw [show nameOk s=false from name_no hb (by unfold letter;simp [hb2])],rfl⟩,?_⟩
       exact Sub.nil _
     . refine LW.go uK 1 rfl (LW.gtr false rfl rfl (decide_eq_false (by have:¬ 122<b.toNat:=hb2;omega)) rfl ?_)
       refine LW.go uK 8 rfl (LW.ad ((i+1:Int)) ?_)
       exact LW.go uK 2 rfl (NW.mG (i+1) (by exact⟨⟨by omega,by rw [hsn];unfold letter;simp;exact⟨UInt8.not_lt.1 hb1,UInt8.not_lt.1 hb2⟩⟩,by omega⟩))
 . have hin:i=s.length:=oF hc15
   rw [hin,List.take_length] at hal
   have h0:nameOk s=true:=by unfold nameOk;simp [hal];omega
   refine CW.go uK 2 rfl (NW.then_exit (NW.go uK 8 rfl ?_))
   refine NW.ret1 rfl rfl ⟨_,⟨by rw [h0],rfl⟩,?_⟩
   exact Sub.nil _
end
end Go.Proofs.YtnlpccoigflheaaGreatDoor
