/- TMov4 Dev4 LeastDef RefDef RefGet AllDef Slot1 -/
import Derived.Test.YtnlpccoigflheaaGreatDoorTMov3
import Derived.Test.YtnlpccoigflheaaGreatDoorBin1
import Derived.Test.YtnlpccoigflheaaGreatDoorSlotDef
import Derived.Test.YtnlpccoigflheaaGreatDoorIns
import Derived.Test.YtnlpccoigflheaaGreatDoorAgg
import Derived.Test.YtnlpccoigflheaaGreatDoorFac
namespace Go.Proofs.YtnlpccoigflheaaGreatDoor
open Go.RowKit
open Go.Proofs.Tryz
def TuF:Tbl:=⟨[(36,0,0),(36,1,1),(236,2,2),(236,3,3),(236,6,6)],[],[22,166]⟩
theorem uF:TuF.Ok Tryz.prog:=.of (⟨⟨_,Tryz.underlying22⟩,⟨_,Tryz.underlying166⟩,trivial⟩)
def rmd (s:StoP):Nat->Option ItemP->List (List Int)
 | 0,_=>[]
 | _+1,none=>[]
 | n+1,some i=>i.vec::sampleGo s n i.id
theorem sampleGo_rmd (s:StoP)(n:Nat)(a:Int):sampleGo s n a=rmd s n (stoNext s a):=by
 cases n with
 | zero=>rfl
 | succ n=>unfold sampleGo;cases stoNext s a<;>rfl
theorem rmd_none (s:StoP):∀ n,rmd s n none=[]
 | 0=>rfl
 | _+1=>rfl
theorem may_all_id {dim:Nat}:∀ {vs:List (Value×List Int)},(∀ x∈vs,mayV x.2 (dim:Int)=true)->mayOf dim vs=vs:=fun h=>List.filter_eq_self.2 h
section
variable (W:World)(B:Nat)
theorem mov_Step (ht:Tab W B)(p old ps:Nat)(m:MovP)(xo:IdxP)(s:StoP)(draw:Nat)(rows ro rs im:List Row)(hm:MovR W B im p old m rows)(ho:IdxR W B im old xo ro)(hs:StoR W B im ps s rs)(hdr:draw<4294967296)
   (hpa:m.paused=false) (hph:m.phase=1\/m.phase=2\/m.phase=3) (hq0:m.queue=[]) (hf:m.phase=1->FillOk s draw 4 { m with has:=min (m.has+1) 2 })
   (hpr:m.phase=3->∃ x,probeAt s draw=some x/\mayV x.vec (xo.dim:Int)=true/\mayV x.vec (m.now.dim:Int)=true/\m.tried<50/\m.missed<50) :
   Spec prog W B 180 [ptr p,.int .u32 (draw:Int),ptr ps] (rows++(ro++(rs++im))) (fun r post=>r=.tuple #[.int .i64 (movStep m xo s draw).1,.nilIface]/\∃ rows' ch,MovR W B (ch++im) p old (movStep m xo s draw).2 rows'/\post=rows'++(ro++(rs++(ch++im)))):=by
 obtain⟨qn,qq,rn,rq,hn,hq,rfl,hh,htr,hms⟩:=hm
 have hbk:∀ j v,(bktC 2 1 m.has)[j]?=some v->(movC old qn qq m)[6+j]?=some v:=fun j v h=>match j,h with
   | 0,h=>h
   | 1,h=>h
   | 2,h=>h
   | _+3,h=>by cases h
 have hph0:m.phase≠0:=by omega
 obtain⟨mA,hmA⟩:∃ mA:MovP,mA={ m with has:=min (m.has+1) 2 }:=⟨_,rfl⟩
 have hMA:∀ im':List Row,(∀ y∈im,y∈im')->MovR W B im' p old mA ([cr p 236 (movC old qn qq mA)]++(rn++rq)):=fun im' hi=>by
   subst hmA
   exact⟨qn,qq,rn,rq,hn.more hi,hq.more hi,rfl,by dsimp only;omega,htr,hms⟩
 have hC:movC old qn qq mA=movC old qn qq { m with has:=min (m.has+1) 2 }:=by rw [hmA]
 rcases hph with hph | hph | hph
 . have hst:movStep m xo s draw=(0,movFill mA s draw 4):=by subst hmA;unfold movStep;simp only;rw [if_pos hph]
   rw [hst]
   rw [hph] at hph0
   have hf':=hf hph
   rw [<- hmA] at hf'
   refine Spec.eG [[cr p 236 (movC old qn qq m)],rn,rq,ro,rs,im] func180 ntmps180 fun w0=>?_
   refine CW.go uF 11 rfl (LW.pn underlying112 ?_)
   refine LW.go uF 9 rfl (LW.load (v:=.bool false) rfl .t (by rw [<- hpa];rfl) one4 rfl ?_)
   refine LW.go uF 8 rfl (LW.load (v:=.int .i64 1) rfl .t (by rw [<- hph];rfl) one3 rfl ?_)
   refine LW.go uF 1 rfl (LW.eqlF ?_)
   refine LW.go uF 14 rfl (LW.loadAgg (bktC 2 1 m.has) rfl .t (hbk) underlying232 rfl (sze szt232) rfl ?_)
   refine LW.eT (bkt_Step W B 2 1 m.has (by omega) (by omega) hh) cl246 ((Take.none _)) ?_
   refine LW.go uF 2 rfl (LW.storeAgg (movC old qn qq mA) rfl rfl .t (sze szt232) (by show 6+3<=11;decide) (bktC_one 2 1 _) (by rw [hC];rfl) ?_)
   refine LW.go uF 8 rfl (LW.load (v:=.int .i64 1) rfl .t (by rw [hC,<- hph];rfl) one3 rfl ?_)
   refine LW.go uF 5 rfl (LW.eqlT ?_)
   refine LW.go uF 8 rfl (LW.cT (mov_fill W B p old ps mA s draw ht _ rs im (hMA im fun y hy=>hy) hs hdr hf') cl247 (Take.both .n3 .n2) ?_)
   rintro _ _ ⟨rfl,rows',ch,hm',rfl⟩;refine LW.splitA (LW.splitB (LW.splitC ?_))
   refine LW.go uF 10 rfl ?_
   refine NW.ret2 rfl rfl rfl ⟨_,⟨rfl,rows',ch,hm',rfl⟩,?_⟩
   exact .s5
 . have hst:movStep m xo s draw=(0,{ mA with phase:=3 }):=by
    have hd:movDrain mA=mA:=movDrain_nil (by subst hmA;exact hq0)
    unfold movStep
    simp only
    rw [<- hmA,hd,if_neg (by subst hmA;omega),if_pos (by subst hmA;exact hph),if_pos (by subst hmA;exact hq0)]
   rw [hst]
   rw [hph] at hph0
   refine Spec.eG [[cr p 236 (movC old qn qq m)],rn,rq,ro,rs,im] func180 ntmps180 fun w0=>?_
   refine CW.go uF 11 rfl (LW.pn underlying112 ?_)
   refine LW.go uF 9 rfl (LW.load (v:=.bool false) rfl .t (by rw [<- hpa];rfl) one4 rfl ?_)
   refine LW.go uF 8 rfl (LW.load (v:=.int .i64 2) rfl .t (by rw [<- hph];rfl) one3 rfl ?_)
   refine LW.go uF 1 rfl (LW.eqlF ?_)
   refine LW.go uF 14 rfl (LW.loadAgg (bktC 2 1 m.has) rfl .t (hbk) underlying232 rfl (sze szt232) rfl ?_)
   refine LW.eT (bkt_Step W B 2 1 m.has (by omega) (by omega) hh) cl246 ((Take.none _)) ?_
   refine LW.go uF 2 rfl (LW.storeAgg (movC old qn qq mA) rfl rfl .t (sze szt232) (by show 6+3<=11;decide) (bktC_one 2 1 _) (by rw [hC];rfl) ?_)
   refine LW.go uF 8 rfl (LW.load (v:=.int .i64 2) rfl .t (by rw [hC,<- hph];rfl) one3 rfl ?_)
   refine LW.go uF 5 rfl (LW.eqlF ?_)
   refine LW.go uF 6 rfl (LW.eqlT ?_)
   refine LW.go uF 7 rfl (LW.eT (mov_drain W B p old mA _ im (hMA im fun y hy=>hy) (by subst hmA;exact hq0)) cl248 .n3 ?_)
   refine LW.splitA (LW.splitB ?_)
   refine LW.go uF 7 rfl (LW.sr sz3 ?_)
   refine LW.go uF 10 rfl ?_
   refine NW.ret2 rfl rfl rfl ⟨_,⟨rfl,[cr p 236 (movC old qn qq { mA with phase:=3 })]++(rn++rq),[],by subst hmA;exact⟨qn,qq,rn,rq,hn,hq,rfl,by dsimp only;omega,htr,hms⟩,rfl⟩,?_⟩
   simp only [List.append_assoc,List.nil_append];exact .s6
 . obtain⟨x,hx,h1,h2,ht9,hm9⟩:=hpr hph
   have hst:movStep m xo s draw=movProbe mA xo s draw:=by
    have hd:movDrain mA=mA:=movDrain_nil (by subst hmA;exact hq0)
    unfold movStep
    simp only
    rw [<- hmA,hd,if_neg (by subst hmA;omega),if_neg (by subst hmA;omega),if_pos (by subst hmA;exact hph),if_pos (by subst hmA;exact hq0)]
   rw [hst]
   rw [hph] at hph0
   refine Spec.eG [[cr p 236 (movC old qn qq m)],rn,rq,ro,rs,im] func180 ntmps180 fun w0=>?_
   refine CW.go uF 11 rfl (LW.pn underlying112 ?_)
   refine LW.go uF 9 rfl (LW.load (v:=.bool false) rfl .t (by rw [<- hpa];rfl) one4 rfl ?_)
   refine LW.go uF 8 rfl (LW.load (v:=.int .i64 3) rfl .t (by rw [<- hph];rfl) one3 rfl ?_)
   refine LW.go uF 1 rfl (LW.eqlF ?_)
   refine LW.go uF 14 rfl (LW.loadAgg (bktC 2 1 m.has) rfl .t (hbk) underlying232 rfl (sze szt232) rfl ?_)
   refine LW.eT (bkt_Step W B 2 1 m.has (by omega) (by omega) hh) cl246 ((Take.none _)) ?_
   refine LW.go uF 2 rfl (LW.storeAgg (movC old qn qq mA) rfl rfl .t (sze szt232) (by show 6+3<=11;decide) (bktC_one 2 1 _) (by rw [hC];rfl) ?_)
   refine LW.go uF 8 rfl (LW.load (v:=.int .i64 3) rfl .t (by rw [hC,<- hph];rfl) one3 rfl ?_)
   refine LW.go uF 5 rfl (LW.eqlF ?_)
   refine LW.go uF 6 rfl (LW.eqlF ?_)
   refine LW.go uF 6 rfl (LW.eqlT ?_)
   refine LW.go uF 7 rfl (LW.eT (mov_drain W B p old mA _ im (hMA im fun y hy=>hy) (by subst hmA;exact hq0)) cl248 .n3 ?_)
   refine LW.splitA (LW.splitB ?_)
   refine LW.go uF 8 rfl (LW.cT (mov_probe W B p old ps mA xo s draw x _ ro rs im (hMA im fun y hy=>hy) ho hs hx h1 (by subst hmA;exact h2) (by subst hmA;exact ht9) (by subst hmA;exact hm9) hdr) cl249 (Take.both .n3 .n3) ?_)
   rintro _ _ ⟨rfl,rows',hm',rfl⟩;refine LW.splitA (LW.splitB (LW.splitC ?_))
   refine LW.go uF 7 rfl ?_
   refine NW.ret2 rfl rfl rfl ⟨_,⟨rfl,rows',[],hm',rfl⟩,?_⟩
   simp only [List.nil_append];exact .s4
set_option maxHeartbeats 1000000 in
theorem mov_New (to m:Int)(dim old ps:Nat)(xo:IdxP)(s:StoP)(ro rs im:List Row)(ho:IdxR W B im old xo ro)(hs:StoR W B im ps s rs)(h1:1<=to)(h4:to<=4)(hm:MetOk m)(hd1:1<=dim)(hd8:dim<=8)(hk:to≠xo.x.kind)(hmv:∀ a x,stoNext s a=some x->mayV x.vec (dim:Int)=true) :
   Spec prog W B 108 [ptr old,.int .i64 to,.int .i64 m,iN dim,ptr ps] (ro++(rs++im)) (fun r post=>∃ p rows' bag,r=.tuple #[ptr p,.nilIface]/\MovR W B bag p old (movNew to m dim s) rows'/\post=rows'++(bag++(ro++(rs++im)))):=by
 refine Spec.eG [ro,rs,im] func108 ntmps108 fun w0=>?_
 refine CW.go uF 15 rfl (LW.cT (store_Next W B ps s rs im 0 hs) cl177 .n2 ?_)
 rintro _ _ ⟨u0,bag0,rfl,hu0,rfl⟩;refine LW.splitA (LW.splitB ?_)
 refine LW.go uF 3 rfl (LW.alloc zero36 rfl ?_)
 intro ba13
 refine LW.sA (itemC u0 ((stoNext s 0).getD ItemP.none)) szt36 (itemC_one hu0.one _) ?_
 refine LW.go uF 2 rfl (NW.addNil (a:=[]) rfl ?_)
 refine NW.go uF 2 rfl ?_
 refine CW.loopG (fun st:Nat×Nat×Value×Option ItemP×Value×List (Value×List Int)×List Row×List Row=>[(14,.bool st.2.2.2.1.isSome),(13,.pointer (some ⟨st.2.1,0,none⟩)),(12,st.2.2.2.2.1),(0,ptr old),(1,.int .i64 to),(2,.int .i64 m),(3,iN dim),(4,ptr ps)]) (fun st=>[[cr st.2.1 36 (itemC st.2.2.1 (st.2.2.2.1.getD ItemP.none))],st.2.2.2.2.2.2.1,st.2.2.2.2.2.2.2,ro,rs,im]) (fun st=>st.1<=32/\st.2.2.2.2.2.1.length=st.1/\OwnS 25 1 st.2.2.2.2.1 st.1 (st.2.2.2.2.2.1.map (·.1)) st.2.2.2.2.2.2.1/\(∀ y∈st.2.2.2.2.2.1,VecAt W B st.2.2.2.2.2.2.2 y.1 y.2/\mayV y.2 (dim:Int)=true)/\VecAt W B st.2.2.2.2.2.2.2 st.2.2.1 (st.2.2.2.1.getD ItemP.none).vec/\(∀ x,st.2.2.2.1=some x->mayV x.vec (dim:Int)=true)/\st.2.2.2.2.2.1.map (·.2)++rmd s (32-st.1) st.2.2.2.1=sampleGo s 32 0) (fun st=>32-st.1) (0,ba13,u0,stoNext s 0,.slice none 0 0,[],[],bag0) (by exact⟨Nat.zero_le _,rfl,OwnS.nil,fun y hy=>(by cases hy),hu0,hmv 0,(sampleGo_rmd s 32 0).symm⟩) rfl (by repeat' constructor) ?_
 rintro⟨n,b,u,o,v,vs,ch,bag⟩ ⟨hn,hvl,hov,hvs,hu,hom,hsm⟩;dsimp only at hn hvl hov hvs hu hom hsm |-;obtain⟨A,cp,rfl,hA,hcp⟩:=hov.val
 refine CW.go uF 3 rfl ?_
 rcases o with _ | x
 . refine LW.go uF 11 rfl (NW.then_exit (NW.go uF 3 rfl ?_))
   have hsam:vs.map (·.2)=sampleGo s 32 0:=by first | exact (List.append_nil _).symm.trans ((congrArg _ (rmd_none s _).symm).trans hsm) | (subst hin;exact (List.append_nil _).symm.trans hsm)
   have hmy:mayOf dim vs=vs:=may_all_id fun y hy=>(hvs y hy).2
   refine CW.go uF 5 rfl (LW.cT (idx_New W B to m dim (ch++bag) (.slice A n cp) vs h1 h4 hm hd1 hd8 ⟨by rw [hvl];exact hov.sl.more fun y hy=>List.mem_append_left _ hy,fun y hy=>(hvs y hy).1.right⟩ (by omega) (fun y hy=>by have:=(mayV_of (hvs y hy).2).1;omega)) cl93 .n2 ?_)
   rintro _ _ ⟨q,rn,bag4,rfl,hn4,rfl⟩;rw [hmy,hsam] at hn4;refine LW.splitA (LW.splitB (LW.splitC ?_))
   refine LW.go uF 12 rfl (LW.ifaceNotNil _ rfl underlying43 (.inl ⟨rfl,rfl⟩) rfl ?_)
   refine LW.go uF 8 rfl (LW.eG (idx_Kind W B old xo ro im ho) cl103 ?_)
   refine LW.eql false rfl rfl (beq_eq_false_iff_ne.2 hk) rfl ?_
   refine LW.go uF 7 rfl (LW.pn underlying91 ?_)
   refine LW.go uF 4 rfl (LW.pn underlying90 ?_)
   refine LW.go uF 12 rfl (LW.cT (que_New W B 2000 (by omega) (by omega)) cl178 ((Take.none _)) ?_)
   rintro _ rq ⟨qq,rfl,hq⟩
   refine LW.eT (bkt_New W B 2 1 (by omega) (by omega)) cl179 ((Take.none _)) ?_
   refine LW.bd [_,_,_,_,_] (#[ptr old,ptr q,.int .i64 1,.bool false,.int .i64 0,ptr qq,.int .i64 2,.int .i64 1,.int .i64 2,.int .i64 0,.int .i64 0]) ?_
   refine LW.bx ?_
   intro bb75
   refine LW.go uF 5 rfl ?_
   refine NW.ret2 rfl rfl rfl ⟨_,⟨bb75,[cr bb75 236 (movC old q qq (movNew to m dim s))]++(rn++rq),bag4,rfl,⟨q,qq,rn,rq,hn4,hq _,rfl,by show 2<=2;omega,by show 0<=100;omega,by show 0<=100;omega⟩,rfl⟩,?_⟩
   simp only [List.append_assoc];exact .s7
 . refine LW.go uF 7 rfl (LW.lss (decide ((n:Int)<32)) rfl rfl (rfl) rfl ?_)
   refine LW.go uF 3 rfl ?_
   refine CW.cond rfl (fun hc27=>?_) (fun hc27=>?_)
   . have hin:n<32:=oT hc27
     obtain⟨k,hk9⟩:∃ k,32-n=k+1:=⟨31-n,by omega⟩
     have hk':32-(n+1)=k:=by omega
     rw [hk9] at hsm
     have hu1:=hu.one
     have hxm:=hom x rfl
     have hux:VecAt W B bag u x.vec:=hu
     refine CW.go uF 7 rfl (LW.load (v:=u) rfl .t (rfl) one25 rfl ?_)
     refine LW.buildSlice (vs:=[_]) ⟨rfl,trivial⟩ rfl (by intro v hv;simp at hv;subst hv;exact hu1) underlying22 info25 rfl (by decide) (by decide) rfl ?_
     intro bs38
     refine LW.append ([u]) rfl rfl underlying22 underlying22 (.inr ⟨_,rfl⟩) info25 rfl (hov) .t (fun _=>lenOf_slice _ _ _ _) (first_rd (RdAt.row .t (fun j v hj=>by simpa using hj)) rfl (fun h=>by cases h)) (rfl) (by intro u hu;simp at hu;subst hu;exact hu1) (by omega) (by omega) rfl ?_
     intro v' ch' ho'
     refine LW.go uF 7 rfl (LW.lA (itemC u x) underlying36 szt36 ?_)
     refine LW.go uF 3 rfl (LW.alloc zero36 rfl ?_)
     intro ba13
     refine LW.sA (itemC u x) szt36 (itemC_one hu1 x) ?_
     refine LW.go uF 5 rfl (LW.load (v:=.int .i64 x.id) rfl .t (rfl) one3 rfl ?_)
     refine LW.cT (store_Next W B ps s rs im x.id hs) cl177 .n2 ?_
     rintro _ _ ⟨u2,bag2,rfl,hu2,rfl⟩;refine LW.splitA (LW.splitB ?_)
     refine LW.go uF 3 rfl (LW.sA (itemC u2 ((stoNext s x.id).getD ItemP.none)) szt36 (itemC_one hu2.one _) ?_)
     refine LW.go uF 2 rfl ?_
     refine NW.meet ((n+1,ba13,u2,stoNext s x.id,v',vs++[(u,x.vec)],ch',bag2++bag)) ?j1 ?e1 ?h1
     case j1=>exact⟨⟨by omega,by dsimp only;rw [List.length_append,hvl];rfl,by dsimp only;rw [List.map_append];exact ho',fun y hy=>(by dsimp only at hy |-;rcases List.mem_append.1 hy with hy | hy;exact⟨(hvs y hy).1.right,(hvs y hy).2⟩;(simp at hy;subst hy;exact⟨hux.right,hxm⟩)),hu2.left,hmv _,by dsimp only;rw [List.map_append,hk',List.append_assoc,<- sampleGo_rmd];exact hsm⟩,by dsimp only;omega⟩
     case e1=>repeat (first | exact Env.Le.nil _ | refine Env.Le.cons rfl ?_)
     case h1=>(refine Sub.flatL fun p hp=>?_;simp only [List.flatten_cons,List.flatten_nil,List.append_nil,List.append_assoc] at hp;rw [hp];exact .s7)
   . have hin:n=32:=oF hc27
     refine CW.go uF 2 rfl (NW.then_exit (NW.go uF 3 rfl ?_))
     have hsam:vs.map (·.2)=sampleGo s 32 0:=by first | exact (List.append_nil _).symm.trans ((congrArg _ (rmd_none s _).symm).trans hsm) | (subst hin;exact (List.append_nil _).symm.trans hsm)
     have hmy:mayOf dim vs=vs:=may_all_id fun y hy=>(hvs y hy).2
     refine CW.go uF 5 rfl (LW.cT (idx_New W B to m dim (ch++bag) (.slice A n cp) vs h1 h4 hm hd1 hd8 ⟨by rw [hvl];exact hov.sl.more fun y hy=>List.mem_append_left _ hy,fun y hy=>(hvs y hy).1.right⟩ (by omega) (fun y hy=>by have:=(mayV_of (hvs y hy).2).1;omega)) cl93 .n2 ?_)
     rintro _ _ ⟨q,rn,bag4,rfl,hn4,rfl⟩;rw [hmy,hsam] at hn4;refine LW.splitA (LW.splitB (LW.splitC ?_))
     refine LW.go uF 12 rfl (LW.ifaceNotNil _ rfl underlying43 (.inl ⟨rfl,rfl⟩) rfl ?_)
     refine LW.go uF 8 rfl (LW.eG (idx_Kind W B old xo ro im ho) cl103 ?_)
     refine LW.eql false rfl rfl (beq_eq_false_iff_ne.2 hk) rfl ?_
     refine LW.go uF 7 rfl (LW.pn underlying91 ?_)
     refine LW.go uF 4 rfl (LW.pn underlying90 ?_)
     refine LW.go uF 12 rfl (LW.cT (que_New W B 2000 (by omega) (by omega)) cl178 ((Take.none _)) ?_)
     rintro _ rq ⟨qq,rfl,hq⟩
     refine LW.eT (bkt_New W B 2 1 (by omega) (by omega)) cl179 ((Take.none _)) ?_
     refine LW.bd [_,_,_,_,_] (#[ptr old,ptr q,.int .i64 1,.bool false,.int .i64 0,ptr qq,.int .i64 2,.int .i64 1,.int .i64 2,.int .i64 0,.int .i64 0]) ?_
     refine LW.bx ?_
     intro bb75
     refine LW.go uF 5 rfl ?_
     refine NW.ret2 rfl rfl rfl ⟨_,⟨bb75,[cr bb75 236 (movC old q qq (movNew to m dim s))]++(rn++rq),bag4,rfl,⟨q,qq,rn,rq,hn4,hq _,rfl,by show 2<=2;omega,by show 0<=100;omega,by show 0<=100;omega⟩,rfl⟩,?_⟩
     simp only [List.append_assoc];exact .s7
end
open Go.RowKit
theorem Spec.frame {P:Program}{W:World}{B:Nat}{f:FuncId}{args:List Value}{pre:List Row}{R:Value->List Row->Prop}(h:Spec P W B f args pre R)(src:List Row):Spec P W B f args (src++pre) (fun v post=>∃ q,R v q/\post=src++q):=by
 intro w ho hp
 have s:St ⟨W,B,w,(src++pre).map (·.b)⟩ [src,pre] w:=⟨ho,by simpa using Ext.refl hp⟩
 have tk:Take pre [src,pre] [src]:=Take.tail src (Take.head pre [])
 refine (h w ho (hp.sub (Sub.one (h:=[src,pre]) tk |>.trans (by simpa using Sub.refl _)))).mono ?_
 rintro e w' ⟨v,post,rfl,hR,hx⟩
 refine⟨v,src++post,rfl,⟨post,hR,rfl⟩,?_⟩
 exact (s.called tk hx).ext.sub (Sub.of_perm (by simpa using List.perm_append_comm))
section
variable (W:World)(B:Nat)
theorem dev_WriteG (p bn bw bl n:Nat)(s:DevS)(hs:s.Ok n)(i:Int)(src:List Row)(A:Option Addr)(cp:Nat)(b:List UInt8)(hsrc:Src W B src A (b.map u8v)) :
   Spec prog W B 90 [ptr p,.int .i64 i,.slice A b.length cp] (src++devC p bn bw bl n s) (fun v post=>v=.int .i64 (s.err n i b.length)/\post=src++devC p bn bw bl n (s.write n i b)):=by
 by_cases he:s.err n i b.length=0
 . obtain⟨hd,h0,h1,hl⟩:=DevS.err_zero he
   have hw:s.write n i b=(s.put i.toNat b).burn:=by rw [DevS.write,if_pos he]
   obtain⟨k,rfl⟩:∃ k:Nat,i=(k:Int):=⟨i.toNat,by omega⟩
   rw [he,hw,hl]
   exact dev_Write_ok W B p bn bw bl n s hs k (by omega) hd src A cp b hl hsrc
 . have hw:s.write n i b=s:=by rw [DevS.write,if_neg he]
   rw [hw]
   refine ((dev_Write_no W B p bn bw bl n s i A b.length cp he).frame src).mono ?_
   rintro v post ⟨q,⟨rfl,rfl⟩,rfl⟩
   exact⟨rfl,rfl⟩
end
open Go.RowKit
open Go.RowKit
open Go.RowKit
def negB (bs:List UInt8)(k:Nat):Bool:=decide (0<k) && decide (k<8) && decide (128<=(bs.getD k 0).toNat)
theorem numZ_ref (bs:List UInt8)(k:Nat)(hk:k<=8):numZ bs k=if negB bs k=true then IntKind.i64.wrap (sumZ bs k:Int)-2 ^ (8*k) else IntKind.i64.wrap (sumZ bs k:Int):=by
 have hlt:=sumZ_lt bs k
 unfold numZ
 rw [accZ_sum bs k hk]
 have h:k=0\/k=1\/k=2\/k=3\/k=4\/k=5\/k=6\/k=7\/k=8:=by omega
 have hs:∀ m,sumZ bs (m+1)=sumZ bs m+(bs.getD (1+m) 0).toNat*2 ^ (8*m):=sumZ_succ bs
 have hl:=sumZ_lt bs (k-1)
 rcases h with rfl | rfl | rfl | rfl | rfl | rfl | rfl | rfl | rfl
 . simp [negB,sumZ];rfl
 all_goals
   rw [if_neg (by omega)]
   simp only [negB]
 . rw [sx_def _ 1 72057594037927936 (by decide) (by decide)]
   have h1:=hs 0;simp only [Nat.zero_add,Nat.add_zero] at h1 hl |-
   simp only [wrap_i64] at *
   generalize sumZ bs 1=X at *;generalize sumZ bs 0=Y at *;generalize (bs.getD 1 0).toNat=y at *
   split<;>rename_i hc<;>simp at hc hl<;>omega
 . rw [sx_def _ 2 281474976710656 (by decide) (by decide)]
   have h1:=hs 1;simp only [show 1+1=2 from rfl] at h1
   simp only [wrap_i64] at *
   generalize sumZ bs 2=X at *;generalize sumZ bs 1=Y at *;generalize (bs.getD 2 0).toNat=y at *
   split<;>rename_i hc<;>simp at hc hl<;>omega
 . rw [sx_def _ 3 1099511627776 (by decide) (by decide)]
   have h1:=hs 2;simp only [show 2+1=3 from rfl,show 1+2=3 from rfl] at h1
   simp only [wrap_i64] at *
   generalize sumZ bs 3=X at *;generalize sumZ bs 2=Y at *;generalize (bs.getD 3 0).toNat=y at *
   split<;>rename_i hc<;>simp at hc hl<;>omega
 . rw [sx_def _ 4 4294967296 (by decide) (by decide)]
   have h1:=hs 3;simp only [show 3+1=4 from rfl,show 1+3=4 from rfl] at h1
   simp only [wrap_i64] at *
   generalize sumZ bs 4=X at *;generalize sumZ bs 3=Y at *;generalize (bs.getD 4 0).toNat=y at *
   split<;>rename_i hc<;>simp at hc hl<;>omega
 . rw [sx_def _ 5 16777216 (by decide) (by decide)]
   have h1:=hs 4;simp only [show 4+1=5 from rfl,show 1+4=5 from rfl] at h1
   simp only [wrap_i64] at *
   generalize sumZ bs 5=X at *;generalize sumZ bs 4=Y at *;generalize (bs.getD 5 0).toNat=y at *
   split<;>rename_i hc<;>simp at hc hl<;>omega
 . rw [sx_def _ 6 65536 (by decide) (by decide)]
   have h1:=hs 5;simp only [show 5+1=6 from rfl,show 1+5=6 from rfl] at h1
   simp only [wrap_i64] at *
   generalize sumZ bs 6=X at *;generalize sumZ bs 5=Y at *;generalize (bs.getD 6 0).toNat=y at *
   split<;>rename_i hc<;>simp at hc hl<;>omega
 . rw [sx_def _ 7 256 (by decide) (by decide)]
   have h1:=hs 6;simp only [show 6+1=7 from rfl,show 1+6=7 from rfl] at h1
   simp only [wrap_i64] at *
   generalize sumZ bs 7=X at *;generalize sumZ bs 6=Y at *;generalize (bs.getD 7 0).toNat=y at *
   split<;>rename_i hc<;>simp at hc hl<;>omega
 . rw [sx_def _ 8 1 (by decide) (by decide)]
   simp only [wrap_i64] at *
   generalize sumZ bs 8=X at *
   rw [if_neg (by simp)]
   omega
theorem negB_iff (bs:List UInt8)(k:Nat):negB bs k=true↔0<k/\k<8/\128<=(bs.getD k 0).toNat:=by simp only [negB,Bool.and_eq_true,decide_eq_true_eq,and_assoc]
theorem wrap_I64 (x:Int):I64 (IntKind.i64.wrap x):=by rw [wrap_i64];constructor<;>omega
theorem numZ_I64 (bs:List UInt8)(k:Nat)(hk:k<=8):I64 (numZ bs k):=by
 rw [numZ_ref bs k hk]
 split
 . rename_i h
   rw [negB_iff] at h
   have hlt:=sumZ_lt bs k
   have h1:(2:Nat) ^ (8*k)<=72057594037927936:=Nat.pow_le_pow_right (n:=2) (by decide) (show 8*k<=56 by omega)
   have hp:=Int.natCast_pow 2 (8*k)
   have hw:IntKind.i64.wrap (sumZ bs k:Int)=(sumZ bs k:Int):=wr64 rfl (by omega) (by omega)
   have hp':((2:Nat):Int) ^ (8*k)=(2:Int) ^ (8*k):=rfl
   rw [hw]
   constructor
   . rw [<- hp',<- hp];omega
   . rw [<- hp',<- hp];omega
 . exact wrap_I64 _
open Go.RowKit
theorem getZ_some {bs:List UInt8}{n:Int}{m:Nat}(h:getZ bs=some (n,m)):1<=m/\m<=bs.length/\I64 n:=by
 unfold getZ at h
 split at h
 . cases h
 . split at h
   . cases h
   . split at h
     . cases h
     . split at h
       . simp only [Option.some.injEq,Prod.mk.injEq] at h
         obtain⟨rfl,rfl⟩:=h
         exact⟨by omega,by omega,numZ_I64 _ _ (by omega)⟩
       . cases h
theorem Src.cutA' {W:World}{B:Nat}{src:List Row}{A:Option Addr}{cp:Nat}{bs:List UInt8}(hs:Src W B src A (bs.map u8v))(hc:bs.length<=cp)(i:Nat)(hi:i<=bs.length):Src W B src (cutA A cp i 1) ((bs.drop i).map u8v):=by
 obtain⟨A',cp',he,_,hs'⟩:=RdS.cut hs hc i hi
 injection he with h1
 rw [h1];exact hs'
open Go.RowKit
section
variable (W:World)(B:Nat)
theorem slot_put (serial:Int)(hI:I64 serial)(ns:List Int)(hns:∀ n∈ns,I64 n)(h4:ns.length<=4)(src:List Row)(A:Option Addr)(cp:Nat)(hsrc:Src W B src A (ns.map i64v)) :
  Spec prog W B 160 [.int .i64 serial,.slice A ns.length cp] src (fun v post=>∃ A4 cp4 ch,v=.slice A4 64 cp4/\Src W B ch A4 ((slotB serial ns).map u8v)/\post=src++ch):=by
 have hlI:I64 (ns.length:Int):=⟨by omega,by omega⟩
 have hXl:=slotX_len (s:=serial) h4
 have hel:=encs_len ns
 refine Spec.eG [src] func160 ntmps160 fun w0=>?_
 refine CW.go uF 7 rfl (LW.alloc zero99 rfl ?_)
 intro ba5
 refine LW.go uF 7 rfl (LW.bs [_,_,_] underlying166 info2 ?_)
 intro bs9
 refine LW.cT (bin_WInt W B ba5 (.slice none 0 0) [] [] OwnB.nil [20750,serial,(ns.length:Int)] (by intro n hn;simp at hn;rcases hn with rfl | rfl | rfl;exact⟨by decide,by decide⟩;exact hI;exact hlI) [cr bs9 2 [.int .i64 20750,.int .i64 serial,iN ns.length]] (some ⟨bs9,0,none⟩) 3 (Src.row zd) (by simp)) cl40 (Take.both .t (Take.both .t (Take.none _))) ?_
 rintro _ _ ⟨rfl,v1,ch1,ho1,rfl⟩;rw [List.nil_append] at ho1;refine LW.split2 (LW.split2p ?_)
 refine LW.go uF 5 rfl (LW.cT (bin_WInt W B ba5 v1 (encs [20750,serial,(ns.length:Int)]) ch1 ho1 ns hns src A cp hsrc (by have:=encs_len [20750,serial,(ns.length:Int)];simp at this;omega)) cl40 .n3 ?_)
 rintro _ _ ⟨rfl,v2,ch2,ho2,rfl⟩;refine LW.split2 (LW.split2p ?_)
 refine LW.go uF 4 rfl (LW.cT (bin_WBytes W B ba5 v2 (slotX serial ns) ch2 ho2 (by omega)) cl43 .n2 ?_)
 rintro v3 _ ⟨ch3,ho3,rfl⟩;refine LW.split2 ?_
 refine LW.appendZ (k:=64) rfl rfl underlying65 underlying3 info5 rfl rfl ho3 .t (by decide) (by omega) (by omega) rfl ?_
 intro v4 ch4 ho4;rw [show (slotX serial ns).map u8v++List.replicate 64 (Value.int .u8 0)=(slotX serial ns++List.replicate 64 0).map u8v from by rw [List.map_append,List.map_replicate];rfl] at ho4;obtain⟨A4,cp4,rfl,hA4,hc4⟩:=OwnS.val ho4
 refine LW.cut (0) (64) (cp4) none (some _) none rfl underlying65 szt5 (fun a hf=>rfl) (fun a hf=>congrArg some (hf.eval rfl)) (fun a hf=>rfl) (.inl ⟨rfl,rfl⟩) (.inr ⟨_,rfl⟩) (.inl ⟨rfl,rfl⟩) (by omega) (by omega) (by omega) (by omega) rfl ?_
 refine LW.go uF 4 rfl ?_
 refine NW.ret1 rfl rfl ⟨_,⟨A4,cp4-0,ch4,by rw [cutA_zero'],by have h9:=(OwnS.src (W:=W) (B:=B) ho4).sub 64;rw [<- List.map_take] at h9;exact h9,rfl⟩,?_⟩
 exact .s2
theorem rdI_I64 {r r':List UInt8×Bool}{m:Int}(h:rdI r=(m,r')):I64 m:=by
 unfold rdI at h
 split at h
 . simp only [Prod.mk.injEq] at h;rw [<- h.1];exact⟨by decide,by decide⟩
 . split at h
   . simp only [Prod.mk.injEq] at h;rw [<- h.1];exact⟨by decide,by decide⟩
   . rename_i hg
     simp only [Prod.mk.injEq] at h;rw [<- h.1];exact (getZ_some hg).2.2
theorem slot_set (r:List UInt8×Bool)(k j:Nat)(hj:j<k):((rdN j r).1.map i64v++List.replicate (k-j) (Value.int .i64 0)).set j (.int .i64 (rdI (rdN j r).2).1)=(rdN (j+1) r).1.map i64v++List.replicate (k-(j+1)) (Value.int .i64 0):=by
 have h1:((rdN j r).1.map i64v).length=j:=by rw [List.length_map,rdN_len]
 rw [List.set_append_right _ _ (by rw [h1];exact Nat.le_refl _),h1,Nat.sub_self,show k-j=(k-(j+1))+1 by omega,List.replicate_succ,rdN_succ]
 simp [i64v]
set_option maxHeartbeats 1000000 in
theorem slot_get (p bn bw bl n:Nat)(s:DevS)(hs:s.Ok n)(i:Nat)(hi:i<n) :
   Spec prog W B 208 [ptr p,iN i] (devC p bn bw bl n s)
     (fun v post=>∃ v2 ch,v=.tuple #[.int .i64 (slotGet (s.now.getD i []) (i:Int)).1,v2]/\OwnS 2 1 v2 (slotGet (s.now.getD i []) (i:Int)).2.length ((slotGet (s.now.getD i []) (i:Int)).2.map i64v) ch/\post=ch++devC p bn bw bl n s):=by
 have hbl:(s.now.getD i []).length=64:=hs.now.get (hs.now.getD hi)
 have hrd:=dev_Read W B p bn bw bl n s hs i hi
 have hz:∀ m,(madeCells (Value.int .i64 0).cells (m*1)).toList=List.replicate m (Value.int .i64 0):=fun m=>by
   rw [Nat.mul_one]
   exact madeCells_rep _ _ _ (by intro x hx;simp [Value.cells] at hx;exact hx) (by simp [Value.cells])
 generalize s.now.getD i []=b at hbl hrd |-
 obtain⟨m0,r1,h1⟩:∃ m r,rdI (b,false)=(m,r):=⟨_,_,rfl⟩
 obtain⟨m1,r2,h2⟩:∃ m r,rdI r1=(m,r):=⟨_,_,rfl⟩
 obtain⟨m2,r3,h3⟩:∃ m r,rdI r2=(m,r):=⟨_,_,rfl⟩
 have hl1:r1.1.length<=64:=by have:=rdI_len h1;simp at this;omega
 have hl2:r2.1.length<=64:=by have:=rdI_len h2;omega
 have hl3:r3.1.length<=64:=by have:=rdI_len h3;omega
 have hhead:slotHead b=(m0,m1,m2,r3):=by unfold slotHead;rw [h1];simp only [];rw [h2];simp only [];rw [h3]
 have hI1:I64 m1:=rdI_I64 h2
 have hno:slotFine (m0,m1,m2,r3)=false->slotGet b (i:Int)=(0,[]):=fun h=>by rw [slotGet,hhead,h];rfl
 have hyes:slotFine (m0,m1,m2,r3)=true->slotGet b (i:Int)=if (rdN m2.toNat r3).2.2=false/\m1.tmod 2=(i:Int) then (m1,(rdN m2.toNat r3).1) else (0,[]):=fun h=>by rw [slotGet,hhead,if_pos h]
 have hfn:∀ q,q=slotFine (m0,m1,m2,r3)->(q=true↔r3.2=false/\m0=20750/\1<=m1/\0<=m2/\m2<=4):=fun q hq=>by subst hq;simp [slotFine,and_assoc]
 refine Spec.eG [devC p bn bw bl n s] func208 ntmps208 fun w0=>?_
 refine CW.go uF 10 rfl (LW.cG (hrd) cl89 ?_)
 rintro _ _ ⟨q1,rfl,rfl⟩;refine LW.split1 ?_
 refine LW.go uF 10 rfl ?_
 have hNR:=bin_NewReader W B [cr q1 220 (b.map u8v)] (some ⟨q1,0,none⟩) 64 b (Src.row zd) (fun h=>by cases h) (by omega)
 rw [hbl] at hNR
 refine LW.cG (hNR) cl114 ?_
 rintro _ _ ⟨rp,rv,rch,rfl,hrd0,rfl⟩;refine LW.split2 ?_
 refine LW.go uF 6 rfl (LW.cG (bin_RIntQ W B rp rv (b,false) rch (fun _=>hrd0) (by show b.length<=_;omega) m0 r1 h1) cl115 ?_)
 rintro _ _ ⟨rfl,rv1,hq1,rfl⟩
 refine LW.eql _ rfl rfl rfl rfl ?_
 refine LW.go uF 1 rfl (LW.cG (bin_RIntQ W B rp rv1 r1 rch hq1 (by omega) m1 r2 h2) cl115 ?_)
 rintro _ _ ⟨rfl,rv2,hq2,rfl⟩
 refine LW.go uF 1 rfl (LW.cG (bin_RIntQ W B rp rv2 r2 rch hq2 (by omega) m2 r3 h3) cl115 ?_)
 rintro _ _ ⟨rfl,rv3,hq3,rfl⟩
 refine LW.go uF 9 rfl (LW.eG (bin_Err W B rp rv3 r3.2 rch) cl116 ?_)
 by_cases hb3:r3.2=true
 . refine LW.neq true rfl rfl (by rw [hb3];rfl) rfl ?_
   refine LW.go uF 20 rfl ?_
   have hgz:=hno (Bool.eq_false_iff.2 (fun h=>by have:=((hfn _ rfl).1 h).1;rw [hb3] at this;cases this))
   refine CW.go uF 7 rfl ?_
   refine NW.ret2 rfl rfl rfl ⟨_,⟨.slice none 0 0,[],by rw [hgz],by rw [hgz];exact OwnS.nil,rfl⟩,?_⟩
   exact Sub.one .t
 . refine LW.neq false rfl rfl (by rw [Bool.eq_false_iff.2 hb3];rfl) rfl ?_
   refine LW.go uF 3 rfl ?_
   by_cases hm0:m0=20750
   . refine LW.go uF 1 rfl (LW.not (false) rfl (by rw [hm0];rfl) rfl ?_)
     refine LW.go uF 4 rfl ?_
     by_cases hm1:m1<1
     . refine LW.go uF 1 rfl (LW.lssT ?_)
       refine LW.go uF 13 rfl ?_
       have hgz:=hno (Bool.eq_false_iff.2 (fun h=>by have:=(hfn _ rfl).1 h;omega))
       refine CW.go uF 7 rfl ?_
       refine NW.ret2 rfl rfl rfl ⟨_,⟨.slice none 0 0,[],by rw [hgz],by rw [hgz];exact OwnS.nil,rfl⟩,?_⟩
       exact Sub.one .t
     . refine LW.go uF 1 rfl (LW.lssF ?_)
       refine LW.go uF 4 rfl ?_
       by_cases hm2:m2<0
       . refine LW.go uF 1 rfl (LW.lssT ?_)
         refine LW.go uF 9 rfl ?_
         have hgz:=hno (Bool.eq_false_iff.2 (fun h=>by have:=(hfn _ rfl).1 h;omega))
         refine CW.go uF 7 rfl ?_
         refine NW.ret2 rfl rfl rfl ⟨_,⟨.slice none 0 0,[],by rw [hgz],by rw [hgz];exact OwnS.nil,rfl⟩,?_⟩
         exact Sub.one .t
       . refine LW.go uF 1 rfl (LW.lssF ?_)
         refine LW.go uF 4 rfl ?_
         by_cases hm3:4<m2
         . refine LW.go uF 1 rfl (LW.gtrT ?_)
           refine LW.go uF 5 rfl ?_
           have hgz:=hno (Bool.eq_false_iff.2 (fun h=>by have:=(hfn _ rfl).1 h;omega))
           refine CW.go uF 7 rfl ?_
           refine NW.ret2 rfl rfl rfl ⟨_,⟨.slice none 0 0,[],by rw [hgz],by rw [hgz];exact OwnS.nil,rfl⟩,?_⟩
           exact Sub.one .t
         . refine LW.go uF 1 rfl (LW.gtrF ?_)
           refine LW.go uF 7 rfl ?_
           obtain⟨k4,rfl⟩:∃ k:Nat,m2=(k:Int):=⟨m2.toNat,by omega⟩
           have hgz:=hyes ((hfn _ rfl).2 ⟨Bool.eq_false_iff.2 hb3,hm0,by omega,by omega,by omega⟩)
           rw [Int.toNat_natCast] at hgz
           refine CW.go uF 2 rfl (LW.make (k4) (k4) (List.replicate k4 (Value.int .i64 0)) rfl rfl (by first | rfl | omega) (by first | rfl | omega) underlying166 info2 (by omega) (by omega) (by omega) (hz k4) rfl ?_)
           intro bm49
           refine LW.go uF 12 rfl ?_
           refine CW.loopG (fun st:Nat×Value=>[(52,iN st.1),(51,iN k4),(12,.slice (sA bm49) k4 k4),(10,.int .i64 m1),(8,ptr rp),(1,iN i)]) (fun st=>[[cr bm49 2 ((rdN st.1 r3).1.map i64v++List.replicate (k4-st.1) (Value.int .i64 0))],[cr rp 301 [st.2,.bool (rdN st.1 r3).2.2]]++rch,devC p bn bw bl n s]) (fun st=>st.1<=k4/\RdQ W B st.2 (rdN st.1 r3).2 rch) (fun st=>k4-st.1) (0,rv3) (by exact⟨Nat.zero_le _,hq3⟩) rfl (by repeat' constructor) ?_
           rintro⟨j,v⟩ ⟨hj,hqj⟩;dsimp only at hj hqj
           try dsimp only
           refine CW.go uF 2 rfl (LW.lss _ rfl rfl rfl rfl ?_)
           refine LW.go uF 3 rfl ?_
           refine CW.cond rfl (fun hc53=>?_) (fun hc53=>?_)
           . replace hc53:=of_decide_eq_true hc53
             try dsimp only at hc53
             have hjk:j<k4:=by omega
             have hlj:=rdN_left j r3
             refine CW.go uF 14 rfl (LW.cG (bin_RIntQ W B rp v (rdN j r3).2 rch hqj (by omega) (rdI (rdN j r3).2).1 (rdI (rdN j r3).2).2 rfl) cl115 ?_)
             rintro _ _ ⟨rfl,v',hqj',rfl⟩
             refine LW.indexAddr (j) rfl rfl underlying166 ixs166 (by omega) (by omega) (by simp) rfl ?_
             refine LW.store rfl rfl .t (by rw [List.length_append,List.length_map,rdN_len,List.length_replicate];omega) sz2 (rfl) ?_
             rw [slot_set r3 k4 j hjk]
             refine LW.go uF 4 rfl (LW.add64 rfl rfl (by omega) (by omega) rfl ?_)
             refine LW.go uF 2 rfl ?_
             refine NW.meet ((j+1,v')) ?j1 ?e1 ?h1
             case j1=>exact⟨⟨by omega,by rw [rdN_succ];exact hqj'⟩,by dsimp only;omega⟩
             case e1=>repeat (first | exact Env.Le.nil _ | refine Env.Le.cons rfl ?_)
             case h1=>rw [show (rdI (rdN j r3).2).2=(rdN (j+1) r3).2 from by rw [rdN_succ]];repeat (first | exact Sub.heap_nil _ | exact Sub.refl _ | refine Sub.heap_cons (Take.none _) ?_ | refine Sub.heap_cons .t ?_)
           . replace hc53:=of_decide_eq_false hc53
             try dsimp only at hc53
             have hjk:j=k4:=by omega
             subst hjk
             refine CW.go uF 2 rfl (NW.then_exit (NW.go uF 6 rfl (LW.eG (bin_Err W B rp v (rdN j r3).2.2 rch) cl116 ?_)))
             by_cases hbj:(rdN j r3).2.2=true
             . refine LW.neq true rfl rfl (by rw [hbj];rfl) rfl ?_
               refine LW.go uF 10 rfl ?_
               have hgz2:slotGet b (i:Int)=(0,[]):=by rw [hgz,if_neg (fun h=>by rw [hbj] at h;cases h.1)]
               refine CW.go uF 7 rfl ?_
               refine NW.ret2 rfl rfl rfl ⟨_,⟨.slice none 0 0,[],by rw [hgz2],by rw [hgz2];exact OwnS.nil,rfl⟩,?_⟩
               exact Sub.one .t
             . refine LW.neq false rfl rfl (by rw [Bool.eq_false_iff.2 hbj];rfl) rfl ?_
               refine LW.go uF 4 rfl (LW.rem (m1.tmod 2) rfl rfl (by decide) (rfl) rfl ?_)
               refine LW.go uF 2 rfl ?_
               by_cases hmi:m1.tmod 2=(i:Int)
               . refine LW.go uF 1 rfl (LW.neqF ?_)
                 refine LW.go uF 7 rfl ?_
                 have hgz2:slotGet b (i:Int)=(m1,(rdN j r3).1):=by rw [hgz,if_pos ⟨Bool.eq_false_iff.2 hbj,hmi⟩]
                 have hln:=rdN_len j r3
                 refine CW.go uF 8 rfl ?_
                 refine NW.ret2 rfl rfl rfl ⟨_,⟨_,_,by rw [hgz2],by rw [hgz2,hln];exact OwnS.row (by rw [List.length_map,hln,Nat.mul_one]),rfl⟩,?_⟩
                 rw [Nat.sub_self,List.replicate_zero,List.append_nil];exact Sub.take (p:=[_]) .t (Sub.one .t)
               . refine LW.go uF 1 rfl (LW.neqT ?_)
                 refine LW.go uF 5 rfl ?_
                 have hgz2:slotGet b (i:Int)=(0,[]):=by rw [hgz,if_neg (fun h=>hmi h.2)]
                 refine CW.go uF 7 rfl ?_
                 refine NW.ret2 rfl rfl rfl ⟨_,⟨.slice none 0 0,[],by rw [hgz2],by rw [hgz2];exact OwnS.nil,rfl⟩,?_⟩
                 exact Sub.one .t
   . refine LW.go uF 1 rfl (LW.not (true) rfl (by rw [beq_eq_false_iff_ne.2 hm0];rfl) rfl ?_)
     refine LW.go uF 17 rfl ?_
     have hgz:=hno (Bool.eq_false_iff.2 (fun h=>hm0 ((hfn _ rfl).1 h).2.1))
     refine CW.go uF 7 rfl ?_
     refine NW.ret2 rfl rfl rfl ⟨_,⟨.slice none 0 0,[],by rw [hgz],by rw [hgz];exact OwnS.nil,rfl⟩,?_⟩
     exact Sub.one .t
end
end Go.Proofs.YtnlpccoigflheaaGreatDoor
