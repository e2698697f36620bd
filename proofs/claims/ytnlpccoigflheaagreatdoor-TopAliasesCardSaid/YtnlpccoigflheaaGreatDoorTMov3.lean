/- TMov2 TMov3 -/
import Derived.Test.YtnlpccoigflheaaGreatDoorTMov1
import Derived.Test.YtnlpccoigflheaaGreatDoorFac
namespace Go.Proofs.YtnlpccoigflheaaGreatDoor
open Go.RowKit
open Go.Proofs.Tryz
def TuE:Tbl:=⟨[(36,0,0),(234,0,0),(234,1,1),(236,1,1),(236,2,2),(236,4,4),(236,5,5),(236,7,9)],[],[]⟩
theorem uE:TuE.Ok Tryz.prog:=.of trivial
def movC (old qn qq:Nat)(m:MovP):List Value:=[ptr old,ptr qn,.int .i64 m.phase,.bool m.paused,.int .i64 m.cursor,ptr qq,.int .i64 2,.int .i64 1,iN m.has,iN m.tried,iN m.missed]
def MovR (W:World)(B:Nat)(im:List Row)(p old:Nat)(m:MovP)(rows:List Row):Prop:=
 ∃ qn qq rn rq,IdxR W B im qn m.now rn/\QueR W B im qq 2000 m.queue rq/\rows=[cr p 236 (movC old qn qq m)]++(rn++rq)/\m.has<=2/\m.tried<=100/\m.missed<=100
theorem MovR.more {W:World}{B:Nat}{im im':List Row}{p old:Nat}{m:MovP}{rows:List Row}(h:MovR W B im p old m rows)(hx:∀ y∈im,y∈im'):MovR W B im' p old m rows:=by
 obtain⟨qn,qq,rn,rq,h1,h2,h3⟩:=h
 exact⟨qn,qq,rn,rq,h1.more hx,h2.more hx,h3⟩
def FillOk (s:StoP)(draw:Nat):Nat->MovP->Prop
 | 0,_=>True
 | n+1,m=>∀ i,stoNext s m.cursor=some i->mayV i.vec (m.now.dim:Int)=true/\IdOk i.id/\(∀ g,m.now.x=.graph g->aget g i.id=none)/\FillOk s draw n { m with now:=idxPut m.now i.id i.vec draw,cursor:=i.id }
theorem movFill_none {m:MovP}{s:StoP}{draw n:Nat}(h:stoNext s m.cursor=none):movFill m s draw (n+1)={ m with phase:=2 }:=by simp only [movFill,h]
theorem movFill_some {m:MovP}{s:StoP}{draw n:Nat}{i:ItemP}(h:stoNext s m.cursor=some i):movFill m s draw (n+1)=movFill { m with now:=idxPut m.now i.id i.vec draw,cursor:=i.id } s draw n:=by simp only [movFill,h]
section
variable (W:World)(B:Nat)
theorem sha_Verdict (t m:Nat):Spec prog W B 292 [talV t m,.int .i64 1] [] (fun r post=>r=.int .i64 (if m>1 then 2 else if t>=4 then 1 else 0)/\post=[]):=by
 by_cases h1:m>1
 . rw [if_pos h1]
   refine Spec.eG [] func292 ntmps292 fun w0=>?_
   refine CW.go uE 2 rfl (LW.bx ?_)
   intro bb2
   refine LW.go uE 6 rfl ?_
   rw [show (talV t m).cells.toList=[Value.int .i64 (t:Int),iN m] from rfl]
   refine CW.go uE 2 rfl (LW.load (v:=iN m) rfl .t (rfl) one3 rfl ?_)
   refine LW.go uE 1 rfl (LW.gtrT ?_)
   refine LW.go uE 12 rfl ?_
   refine NW.r1 ⟨_,⟨rfl,rfl⟩,?_⟩
   exact Sub.nil _
 . rw [if_neg h1]
   by_cases h2:t>=4
   . rw [if_pos h2]
     refine Spec.eG [] func292 ntmps292 fun w0=>?_
     refine CW.go uE 2 rfl (LW.bx ?_)
     intro bb2
     refine LW.go uE 6 rfl ?_
     rw [show (talV t m).cells.toList=[Value.int .i64 (t:Int),iN m] from rfl]
     refine CW.go uE 2 rfl (LW.load (v:=iN m) rfl .t (rfl) one3 rfl ?_)
     refine LW.go uE 1 rfl (LW.gtrF ?_)
     refine LW.go uE 7 rfl (LW.load (v:=iN t) rfl .t (rfl) one3 rfl ?_)
     refine LW.geqT ?_
     refine LW.go uE 12 rfl ?_
     refine NW.r1 ⟨_,⟨rfl,rfl⟩,?_⟩
     exact Sub.nil _
   . rw [if_neg h2]
     refine Spec.eG [] func292 ntmps292 fun w0=>?_
     refine CW.go uE 2 rfl (LW.bx ?_)
     intro bb2
     refine LW.go uE 6 rfl ?_
     rw [show (talV t m).cells.toList=[Value.int .i64 (t:Int),iN m] from rfl]
     refine CW.go uE 2 rfl (LW.load (v:=iN m) rfl .t (rfl) one3 rfl ?_)
     refine LW.go uE 1 rfl (LW.gtrF ?_)
     refine LW.go uE 7 rfl (LW.load (v:=iN t) rfl .t (rfl) one3 rfl ?_)
     refine LW.geqF ?_
     refine LW.go uE 13 rfl ?_
     refine NW.r1 ⟨_,⟨rfl,rfl⟩,?_⟩
     exact Sub.nil _
theorem mov_To (p old:Nat)(m:MovP)(rows im:List Row)(hm:MovR W B im p old m rows):Spec prog W B 181 [ptr p] rows (fun r post=>∃ q rm rn,r=ptr q/\IdxR W B im q m.now rn/\rows.Perm (rn++rm)/\post=rows):=by
 obtain⟨qn,qq,rn,rq,hn,hq,rfl,hh,ht,hms⟩:=hm
 refine Spec.eG [[cr p 236 (movC old qn qq m)],rn,rq] func181 ntmps181 fun w0=>?_
 refine CW.go uE 9 rfl (LW.pn underlying112 ?_)
 refine LW.go uE 10 rfl (LW.ld one91 ?_)
 refine LW.go uE 4 rfl ?_
 refine NW.r1 ⟨_,⟨qn,[cr p 236 (movC old qn qq m)]++rq,rn,rfl,hn,List.perm_append_comm_assoc _ _ _,rfl⟩,?_⟩
 exact .s3
def staC (ph:Int)(pa:Bool)(col:List UInt8)(fr to cu:Int)(be tr ms tk:Nat)(dn ab fl:Int):List Value:=[.int .i64 ph,.bool pa,strV col,.int .i64 fr,.int .i64 to,.int .i64 cu,iN be,iN tr,iN ms,iN tk,.int .i64 dn,.int .i64 ab,.int .i64 fl]
theorem staC_one (ph:Int)(pa:Bool)(col:List UInt8)(fr to cu:Int)(be tr ms tk:Nat)(dn ab fl:Int):∀ u∈staC ph pa col fr to cu be tr ms tk dn ab fl,u.oneCell'=true:=by
 intro u hu
 simp only [staC,List.mem_cons,List.not_mem_nil,or_false] at hu
 rcases hu with rfl | rfl | rfl | rfl | rfl | rfl | rfl | rfl | rfl | rfl | rfl | rfl | rfl<;>rfl
theorem mov_Status (p old:Nat)(m:MovP)(xo:IdxP)(rows ro im:List Row)(hm:MovR W B im p old m rows)(ho:IdxR W B im old xo ro) :
  Spec prog W B 71 [ptr p] (rows++ro) (fun r post=>r=.agg (staC m.phase m.paused [] xo.x.kind m.now.x.kind m.cursor m.queue.length m.tried m.missed m.has 0 0 0).toArray/\post=rows++ro):=by
 obtain⟨qn,qq,rn,rq,hn,hq,rfl,hh,ht,hms⟩:=hm
 refine Spec.eG [[cr p 236 (movC old qn qq m)],rn,rq,ro] func71 ntmps71 fun w0=>?_
 refine CW.go uE 2 rfl (LW.alloc zero39 rfl ?_)
 intro ba2
 refine LW.go uE 6 rfl (LW.pn underlying112 ?_)
 refine LW.go uE 6 rfl (CW.drawH [cr p 236 (movC old qn qq m)] mixed ?_)
 refine AW.ts [0,1,2,3,4,5,6,7,8,9,10,11,13,14,15,16,18,19,20,21,22,23,24,25,27,28,29,30,31,32,33,34,35,36,37,38,39,40,41] 5 (TW.mv ?_)
 refine TW.np ?_
 refine TW.fa fa236_2 ?_
 refine TW.ld one3 ?_
 refine TW.mv ?_
 refine TW.np ?_
 refine TW.fa fa236_3 ?_
 refine TW.ld one4 ?_
 refine TW.mv ?_
 refine TW.np ?_
 refine TW.fa fa236_0 ?_
 refine TW.ld one91 ?_
 refine TW.mv ?_
 refine TW.np ?_
 refine TW.fa fa236_1 ?_
 refine TW.ld one91 ?_
 refine TW.mv ?_
 refine TW.np ?_
 refine TW.fa fa236_4 ?_
 refine TW.ld one3 ?_
 refine TW.mv ?_
 refine TW.np ?_
 refine TW.fa fa236_5 ?_
 refine TW.ld one230 ?_
 refine TW.mv ?_
 refine TW.np ?_
 refine TW.fa fa236_7 ?_
 refine TW.fa fa234_0 ?_
 refine TW.ld one3 ?_
 refine TW.mv ?_
 refine TW.np ?_
 refine TW.fa fa236_7 ?_
 refine TW.fa fa234_1 ?_
 refine TW.ld one3 ?_
 refine TW.mv ?_
 refine TW.np ?_
 refine TW.fa fa236_6 ?_
 refine TW.fa fa232_2 ?_
 refine TW.ld one3 ?_
 refine TW.nil (AW.a 12 ?_)
 refine LW.eG (idx_Kind W B old xo ro im ho) cl103 ?_
 refine LW.nil (AW.b (AW.a 17 ?_))
 refine LW.eG (idx_Kind W B qn m.now rn im hn) cl103 ?_
 refine LW.nil (AW.b (AW.a 26 ?_))
 refine LW.eG (que_Len W B qq 2000 m.queue rq im hq) cl135 ?_
 refine LW.nil (AW.b (AW.ts [42] 1 (TW.take rfl (Yl.build (vs:=[_,_,_,_,_,_,_,_,_]) (#[.int .i64 m.phase,.bool m.paused,strV [],.int .i64 xo.x.kind,.int .i64 m.now.x.kind,.int .i64 m.cursor,iN m.queue.length,iN m.tried,iN m.missed,iN m.has,.int .i64 0,.int .i64 0,.int .i64 0]) ⟨rfl,rfl,rfl,rfl,rfl,rfl,rfl,rfl,rfl,trivial⟩ (by kernel_rfl)) rfl ?_)))
 refine TW.nil (AW.a 43 ?_)
 refine LW.sA (staC m.phase m.paused [] xo.x.kind m.now.x.kind m.cursor m.queue.length m.tried m.missed m.has 0 0 0) szt39 (staC_one _ _ _ _ _ _ _ _ _ _ _ _ _) ?_
 refine LW.nil (AW.b (AW.d ?_))
 refine NW.go uE 2 rfl ?_
 refine NW.res1 rfl (.cell (staC m.phase m.paused [] xo.x.kind m.now.x.kind m.cursor m.queue.length m.tried m.missed m.has 0 0 0) rfl .t zd underlying39 rfl szt39) ⟨_,⟨rfl,rfl⟩,?_⟩
 simp only [List.append_assoc];exact .s4
theorem mov_fill (p old ps:Nat)(m:MovP)(s:StoP)(draw:Nat)(ht:Tab W B)(rows rs im:List Row)(hm:MovR W B im p old m rows)(hs:StoR W B im ps s rs)(hdr:draw<4294967296)(hf:FillOk s draw 4 m) :
   Spec prog W B 247 [ptr p,.int .u32 (draw:Int),ptr ps] (rows++(rs++im)) (fun r post=>r=.tuple #[]/\∃ rows' ch,MovR W B (ch++im) p old (movFill m s draw 4) rows'/\post=rows'++(rs++(ch++im))):=by
 refine Spec.eG [rows,rs,im] func247 ntmps247 fun w0=>?_
 refine CW.go uE 1 rfl (CW.addNil (a:=[]) rfl ?_)
 refine CW.go uE 5 rfl ?_
 refine CW.loopG (fun st:Nat×MovP×List Row×List Row=>[(8,iN st.1),(0,ptr p),(1,.int .u32 (draw:Int)),(2,ptr ps)]) (fun st=>[st.2.2.2,st.2.2.1,rs,im]) (fun st=>st.1<=4/\MovR W B (st.2.2.2++im) p old st.2.1 st.2.2.1/\FillOk s draw (4-st.1) st.2.1/\movFill st.2.1 s draw (4-st.1)=movFill m s draw 4) (fun st=>4-st.1) (0,m,rows,[]) (by exact⟨Nat.zero_le _,hm,hf,rfl⟩) rfl (by repeat' constructor) ?_
 rintro⟨i,m1,r1,ch⟩ ⟨hi,hm1,hf1,he1⟩;dsimp only at hi hm1 hf1 he1 |-
 refine CW.go uE 2 rfl (LW.lss (decide ((i:Int)<4)) rfl rfl (rfl) rfl ?_)
 refine LW.go uE 3 rfl ?_
 refine CW.cond rfl (fun hc9=>?_) (fun hc9=>?_)
 . have hin:i<4:=oT hc9
   obtain⟨k,hk⟩:∃ k,4-i=k+1:=⟨3-i,by omega⟩
   have hk':4-(i+1)=k:=by omega
   rw [hk] at hf1 he1
   obtain⟨qn,qq,rn,rq,hn,hq,rfl,hh,htr,hms⟩:=hm1
   refine CW.splitB (CW.splitC ?_)
   refine CW.go uE 10 rfl (LW.ld one3 ?_)
   refine LW.cT (store_Next W B ps s rs (ch++im) m1.cursor (hs.more fun y hy=>List.mem_append_right _ hy)) cl177 .n3 ?_
   rintro _ _ ⟨u,bag,rfl,hu,rfl⟩;refine LW.splitA (LW.splitB (LW.splitC ?_))
   refine LW.go uE 3 rfl (LW.alloc zero36 rfl ?_)
   intro ba6
   refine LW.sA (itemC u ((stoNext s m1.cursor).getD ItemP.none)) szt36 (itemC_one hu.one _) ?_
   refine LW.go uE 7 rfl ?_
   rcases hnx:stoNext s m1.cursor with _ | x
   . refine LW.go uE 9 rfl (LW.sr sz3 ?_)
     refine LW.go uE 6 rfl (NW.then_ret ?_)
     refine NW.go uE 1 rfl ?_
     refine NW.ret0 rfl  ⟨_,⟨rfl,[cr p 236 (movC old qn qq { m1 with phase:=2 })]++(rn++rq),ch,⟨qn,qq,rn,rq,by rw [<- he1,movFill_none hnx];exact hn,by rw [<- he1,movFill_none hnx];exact hq,by rw [<- he1,movFill_none hnx],by rw [<- he1,movFill_none hnx];exact hh,by rw [<- he1,movFill_none hnx];exact htr,by rw [<- he1,movFill_none hnx];exact hms⟩,rfl⟩,?_⟩
     simp only [List.append_assoc];exact .s6
   . refine LW.go uE 7 rfl ?_
     rw [hnx] at hu
     obtain⟨hmay,hid,hgn,hfk⟩:=hf1 x hnx
     rw [movFill_some hnx] at he1
     refine CW.drawH [cr p 236 (movC old qn qq m1),cr ba6 36 (itemC u x)] mixed ?_
     refine AW.ts [0,1,2,3,4,5,6,7,8] 1 (TW.mv ?_)
     refine TW.np ?_
     refine TW.fa fa236_1 ?_
     refine TW.ld one91 ?_
     refine TW.fa fa36_0 ?_
     refine TW.ld one3 ?_
     refine TW.fa fa36_1 ?_
     refine TW.ld one25 ?_
     refine TW.mv ?_
     refine TW.nil (AW.a 9 ?_)
     refine LW.cT (idx_Put W B ht qn m1.now rn (bag++(ch++im)) x.id u x.vec draw (hn.more fun y hy=>List.mem_append_right _ hy) (hu.more fun y hy=>List.mem_append_left _ hy) hmay hid hdr hgn) cl49 .n4 ?_
     rintro _ _ ⟨rfl,rn',c33,hn',rfl⟩;refine LW.splitA (LW.splitB (LW.splitC (LW.splitD ?_)))
     refine LW.nil (AW.b (AW.d ?_))
     refine NW.go uE 4 rfl (LW.load (v:=.int .i64 x.id) rfl .t (rfl) one3 rfl ?_)
     refine LW.go uE 2 rfl (LW.sr sz3 ?_)
     refine LW.go uE 4 rfl (LW.ad ((i+1:Int)) ?_)
     refine LW.go uE 2 rfl ?_
     refine NW.meet ((i+1,{ m1 with now:=idxPut m1.now x.id x.vec draw,cursor:=x.id },[cr p 236 (movC old qn qq { m1 with now:=idxPut m1.now x.id x.vec draw,cursor:=x.id })]++(rn'++rq),c33++(bag++ch))) ?j1 ?e1 ?h1
     case j1=>exact⟨⟨by omega,⟨qn,qq,rn',rq,hn'.more (by simp),hq.more (fun y hy=>by simp only [List.mem_append] at hy |-;rcases hy with hy | hy;exact .inl (.inr (.inr hy));exact .inr hy),rfl,hh,htr,hms⟩,by dsimp only;rw [hk'];exact hfk,by dsimp only;rw [hk'];exact he1⟩,by dsimp only;omega⟩
     case e1=>repeat (first | exact Env.Le.nil _ | refine Env.Le.cons rfl ?_)
     case h1=>(refine Sub.flatL fun p hp=>?_;simp only [List.flatten_cons,List.flatten_nil,List.append_nil,List.append_assoc] at hp;rw [hp];exact .s8)
 . have hin:i=4:=oF hc9
   rw [hin] at he1
   have he2:m1=movFill m s draw 4:=he1
   rw [he2] at hm1
   refine CW.go uE 2 rfl (NW.then_exit (NW.go uE 1 rfl ?_))
   refine NW.end0 rfl  ⟨_,⟨rfl,_,_,hm1,rfl⟩,?_⟩
   exact .s4
end
open Go.RowKit
theorem movDrain_nil {m:MovP}(h:m.queue=[]):movDrain m=m:=by
 unfold movDrain
 rw [h]
 simp only [List.take_nil,List.drop_nil,List.foldl_nil]
 cases m
 simp only at h
 subst h
 rfl
theorem movProbe_of {m:MovP}{xo:IdxP}{s:StoP}{draw:Nat}{ms:Bool}(h:probeMiss m xo s draw=ms)(h9:m.missed<50) :
   ∃ (mi:Nat) (vd:Int),(m.missed+if ms=true then 1 else 0)=mi/\mi<=51/\(if mi>1 then (2:Int) else if m.tried+1>=4 then 1 else 0)=vd/\(vd=0\/vd=1\/vd=2) /\
     movProbe m xo s draw=(vd,{ m with tried:=m.tried+1,missed:=mi,phase:=if vd=0 then m.phase else 0 }):=by
 obtain⟨mi,hmi⟩:∃ mi:Nat,(m.missed+if ms=true then 1 else 0)=mi:=⟨_,rfl⟩
 have hmi9:mi<=51:=by rw [<- hmi];split<;>omega
 unfold movProbe
 rw [h,hmi]
 simp only
 by_cases h1:mi>1
 . exact⟨mi,2,rfl,hmi9,if_pos h1,.inr (.inr rfl),by rw [if_pos h1];rfl⟩
 . by_cases h2:m.tried+1>=4
   . exact⟨mi,1,rfl,hmi9,by rw [if_neg h1,if_pos h2],.inr (.inl rfl),by rw [if_neg h1,if_pos h2];rfl⟩
   . exact⟨mi,0,rfl,hmi9,by rw [if_neg h1,if_neg h2],.inl rfl,by rw [if_neg h1,if_neg h2];rfl⟩
theorem tal_at (old qn qq:Nat)(m:MovP):∀ j v,[Value.int .i64 (m.tried:Int),iN m.missed][j]?=some v->(movC old qn qq m)[9+j]?=some v
 | 0,_,h=>h
 | 1,_,h=>h
 | _+2,_,h=>by cases h
theorem tal_one (a b:Nat):∀ u∈[Value.int .i64 (a:Int),iN b],u.oneCell'=true:=fun u hu=>by
 simp only [List.mem_cons,List.not_mem_nil,or_false] at hu
 rcases hu with rfl | rfl<;>rfl
section
variable (W:World)(B:Nat)
theorem mov_drain (p old:Nat)(m:MovP)(rows im:List Row)(hm:MovR W B im p old m rows)(hq0:m.queue=[]) :
   Spec prog W B 248 [ptr p] rows (fun r post=>r=.bool true/\post=rows):=by
 obtain⟨qn,qq,rn,rq,hn,hq,rfl,hh,htr,hms⟩:=hm
 rw [hq0] at hq
 refine Spec.eG [[cr p 236 (movC old qn qq m)],rn,rq] func248 ntmps248 fun w0=>?_
 refine CW.go uE 12 rfl ?_
 refine CW.loopG (fun i:Nat=>[(5,iN i),(0,ptr p)]) (fun _=>[[cr p 236 (movC old qn qq m)],rn,rq]) (fun i=>i<=4) (fun i=>4-i) 0 (by exact Nat.zero_le _) rfl (by repeat' constructor) ?_
 rintro i hi
 refine CW.go uE 2 rfl (LW.lss (decide ((i:Int)<4)) rfl rfl (rfl) rfl ?_)
 refine LW.go uE 3 rfl ?_
 refine CW.cond rfl (fun hc6=>?_) (fun hc6=>?_)
 . have hin:i<4:=oT hc6
   refine CW.go uE 9 rfl (LW.ld one230 ?_)
   refine LW.eG (que_Take_none W B qq 2000 rq im hq) cl200 ?_
   refine LW.go uE 3 rfl (LW.alloc zero120 rfl ?_)
   intro ba3
   refine LW.sA (chaC (.slice none 0 0) ⟨0,[],0,false⟩) szt120 (chaC_one rfl ⟨0,[],0,false⟩) ?_
   refine LW.go uE 17 rfl (LW.ad ((i+1:Int)) ?_)
   exact LW.go uE 2 rfl (NW.mG (i+1) (by exact⟨by omega,by omega⟩))
 . refine CW.go uE 2 rfl (NW.then_exit (NW.go uE 7 rfl (LW.ld one230 ?_)))
   refine LW.eG (que_Len W B qq 2000 [] rq im hq) cl135 ?_
   refine LW.eql true rfl rfl (rfl) rfl ?_
   refine LW.go uE 4 rfl ?_
   refine NW.r1 ⟨_,⟨rfl,rfl⟩,?_⟩
   exact .s3
theorem mov_probe (p old ps:Nat)(m:MovP)(xo:IdxP)(s:StoP)(draw:Nat)(x:ItemP)(rows ro rs im:List Row)(hm:MovR W B im p old m rows)(ho:IdxR W B im old xo ro)(hs:StoR W B im ps s rs)(hx:probeAt s draw=some x)(h1:mayV x.vec (xo.dim:Int)=true)(h2:mayV x.vec (m.now.dim:Int)=true)(ht9:m.tried<50)(hm9:m.missed<50)(hdr:draw<4294967296) :
  Spec prog W B 249 [ptr p,.int .u32 (draw:Int),ptr ps] (rows++(ro++(rs++im))) (fun r post=>r=.int .i64 (movProbe m xo s draw).1/\∃ rows',MovR W B im p old (movProbe m xo s draw).2 rows'/\post=rows'++(ro++(rs++im))):=by
 have hpm:probeMiss m xo s draw=missP (idxS xo x.vec 1) (idxS m.now x.vec 1):=by unfold probeMiss;rw [hx]
 obtain⟨qn,qq,rn,rq,hn,hq,rfl,hh,htr,hms⟩:=hm
 have hd1:draw % 1000<1000:=Nat.mod_lt _ (by omega)
 generalize hdm:draw % 1000=dm at hd1
 have hpa:(stoNext s (dm:Int)=some x)\/(stoNext s (dm:Int)=none/\stoNext s 0=some x):=by
  unfold probeAt at hx
  rw [hdm] at hx
  cases h9:stoNext s (dm:Int) with
  | none=>rw [h9] at hx;exact .inr ⟨rfl,hx⟩
  | some y=>rw [h9] at hx;exact .inl hx
 clear hx
 generalize hms9:missP (idxS xo x.vec 1) (idxS m.now x.vec 1)=ms at hpm
 obtain⟨mi,vd,hmi,hmi9,hvd,hv3,hmp⟩:=movProbe_of hpm hm9
 rw [hmp]
 rcases hpa with hx | ⟨hx0,hx⟩
 ·
  refine Spec.eG [[cr p 236 (movC old qn qq m)],rn,rq,ro,rs,im] func249 ntmps249 fun w0=>?_
  refine CW.go uE 9 rfl (LW.rem ((dm:Int)) rfl rfl (by decide) (by rw [Int.tmod_eq_emod_of_nonneg (by omega)];omega) rfl ?_)
  refine LW.convInt ((dm:Int)) rfl underlying30 underlying3 w4 rfl ?_
  refine LW.cT (store_Next W B ps s rs im (dm:Int) hs) cl177 .n2 ?_
  rintro _ _ ⟨u,bag,rfl,hu,rfl⟩;refine LW.splitA (LW.splitB ?_)
  rw [hx] at hu |-
  refine LW.go uE 3 rfl (LW.alloc zero36 rfl ?_)
  intro ba7
  refine LW.sA (itemC u x) szt36 (itemC_one hu.one _) ?_
  refine LW.go uE 27 rfl (CW.drawH [cr p 236 (movC old qn qq m),cr ba7 36 (itemC u x)] mixed ?_)
  refine AW.ts [0,1,2,3,4,5] 5 (TW.mv ?_)
  refine TW.np ?_
  refine TW.fa fa236_0 ?_
  refine TW.ld one91 ?_
  refine TW.fa fa36_1 ?_
  refine TW.ld one25 ?_
  refine TW.nil (AW.a 6 ?_)
  refine LW.cT (idx_Search W B old xo ro (bag++im) u x.vec 1 (ho.more fun y hy=>List.mem_append_right _ hy) (hu.more fun y hy=>List.mem_append_left _ hy) h1 (by omega)) cl36 .n3 ?_
  rintro _ _ ⟨u1,c1,rfl,ho1,rfl⟩;refine LW.splitA (LW.splitB (LW.splitC ?_))
  refine LW.nil (AW.b (AW.ts [7,8,9,10] 0 (TW.mv ?_)))
  refine TW.take rfl (Yl.extract rfl rfl) rfl ?_
  refine TW.take rfl (Yl.extract rfl rfl) rfl ?_
  refine TW.as ?_
  refine TW.nil (AW.d ?_)
  refine NW.go uE 1 rfl (CW.drawH [cr p 236 (movC old qn qq m),cr ba7 36 (itemC u x)] mixed ?_)
  refine AW.ts [0,1,2,3,4,5] 5 (TW.mv ?_)
  refine TW.np ?_
  refine TW.fa fa236_1 ?_
  refine TW.ld one91 ?_
  refine TW.fa fa36_1 ?_
  refine TW.ld one25 ?_
  refine TW.nil (AW.a 6 ?_)
  refine LW.cT (idx_Search W B qn m.now rn (bag++im) u x.vec 1 (hn.more fun y hy=>List.mem_append_right _ hy) (hu.more fun y hy=>List.mem_append_left _ hy) h2 (by omega)) cl36 .n3 ?_
  rintro _ _ ⟨u2,c2,rfl,ho2,rfl⟩;refine LW.splitA (LW.splitB (LW.splitC ?_))
  refine LW.nil (AW.b (AW.ts [7,8,9,10] 0 (TW.mv ?_)))
  refine TW.take rfl (Yl.extract rfl rfl) rfl ?_
  refine TW.take rfl (Yl.extract rfl rfl) rfl ?_
  refine TW.as ?_
  refine TW.nil (AW.d ?_)
  refine NW.go uE 7 rfl (LW.loadAgg ([iN m.tried,iN m.missed]) rfl .t (tal_at old qn qq m) underlying234 rfl (sze szt234) rfl ?_)
  refine LW.go uE 2 rfl (LW.eT (sha_Add W B m.tried m.missed (by omega) (by omega) u1 u2 _ _ c1 c2 ho1 ho2) cl201 .n2 ?_)
  rw [hms9,hmi];refine LW.splitA ?_
  refine LW.go uE 2 rfl (LW.sA (movC old qn qq { m with tried:=m.tried+1,missed:=mi }) szt234 (tal_one _ _) ?_)
  refine LW.go uE 8 rfl (LW.loadAgg ([.int .i64 ((m.tried+1:Nat):Int),iN mi]) rfl .t (tal_at old qn qq { m with tried:=m.tried+1,missed:=mi }) underlying234 rfl (sze szt234) rfl ?_)
  refine LW.eT (sha_Verdict W B (m.tried+1) mi) cl292 ((Take.none _)) ?_
  rw [hvd]
  refine LW.go uE 5 rfl (LW.eql ((vd==1)) rfl rfl (rfl) rfl ?_)
  refine LW.go uE 3 rfl ?_
  refine CW.cond rfl (fun hc62=>?_) (fun hc62=>?_)
  . obtain rfl:vd=1:=by simpa using hc62
    refine CW.go uE 5 rfl (LW.sr sz3 ?_)
    refine LW.go uE 10 rfl ?_
    refine NW.ret1 rfl rfl ⟨_,⟨rfl,[cr p 236 (movC old qn qq { m with tried:=m.tried+1,missed:=mi,phase:=0 })]++(rn++rq),⟨qn,qq,rn,rq,hn,hq,rfl,hh,by dsimp only;omega,by dsimp only;omega⟩,rfl⟩,?_⟩
    simp only [List.append_assoc];exact .s6
  . have hv1:vd≠1:=by simpa using hc62
    refine CW.go uE 2 rfl (LW.eql ((vd==2)) rfl rfl (rfl) rfl ?_)
    refine LW.go uE 3 rfl ?_
    refine CW.cond rfl (fun hc67=>?_) (fun hc67=>?_)
    . obtain rfl:vd=2:=by simpa using hc67
      refine CW.go uE 5 rfl (LW.sr sz3 ?_)
      refine LW.go uE 10 rfl ?_
      refine NW.ret1 rfl rfl ⟨_,⟨rfl,[cr p 236 (movC old qn qq { m with tried:=m.tried+1,missed:=mi,phase:=0 })]++(rn++rq),⟨qn,qq,rn,rq,hn,hq,rfl,hh,by dsimp only;omega,by dsimp only;omega⟩,rfl⟩,?_⟩
      simp only [List.append_assoc];exact .s6
    . obtain rfl:vd=0:=by have hv2:vd≠2:=(by simpa using hc67);omega
      refine CW.go uE 9 rfl ?_
      refine NW.ret1 rfl rfl ⟨_,⟨rfl,[cr p 236 (movC old qn qq { m with tried:=m.tried+1,missed:=mi })]++(rn++rq),⟨qn,qq,rn,rq,hn,hq,rfl,hh,by dsimp only;omega,by dsimp only;omega⟩,rfl⟩,?_⟩
      simp only [List.append_assoc];exact .s6
 ·
  refine Spec.eG [[cr p 236 (movC old qn qq m)],rn,rq,ro,rs,im] func249 ntmps249 fun w0=>?_
  refine CW.go uE 9 rfl (LW.rem ((dm:Int)) rfl rfl (by decide) (by rw [Int.tmod_eq_emod_of_nonneg (by omega)];omega) rfl ?_)
  refine LW.convInt ((dm:Int)) rfl underlying30 underlying3 w4 rfl ?_
  refine LW.cT (store_Next W B ps s rs im (dm:Int) hs) cl177 .n2 ?_
  rintro _ _ ⟨u,bag,rfl,hu,rfl⟩;refine LW.splitA (LW.splitB ?_)
  rw [hx0] at hu |-
  refine LW.go uE 3 rfl (LW.alloc zero36 rfl ?_)
  intro ba7
  refine LW.sA (itemC u ItemP.none) szt36 (itemC_one hu.one _) ?_
  refine LW.go uE 13 rfl (LW.cT (store_Next W B ps s rs (bag++im) 0 (hs.more fun y hy=>List.mem_append_right _ hy)) cl177 .n3 ?_)
  rintro _ _ ⟨u0,bag0,rfl,hu0,rfl⟩;refine LW.splitA (LW.splitB (LW.splitC ?_))
  rw [hx] at hu0 |-
  refine LW.go uE 3 rfl (LW.sA (itemC u0 x) szt36 (itemC_one hu0.one _) ?_)
  refine LW.go uE 17 rfl (CW.drawH [cr p 236 (movC old qn qq m),cr ba7 36 (itemC u0 x)] mixed ?_)
  refine AW.ts [0,1,2,3,4,5] 5 (TW.mv ?_)
  refine TW.np ?_
  refine TW.fa fa236_0 ?_
  refine TW.ld one91 ?_
  refine TW.fa fa36_1 ?_
  refine TW.ld one25 ?_
  refine TW.nil (AW.a 6 ?_)
  refine LW.cT (idx_Search W B old xo ro (bag0++im) u0 x.vec 1 (ho.more fun y hy=>List.mem_append_right _ hy) (hu0.more fun y hy=>List.mem_append_left _ hy) h1 (by omega)) cl36 .n3 ?_
  rintro _ _ ⟨u1,c1,rfl,ho1,rfl⟩;refine LW.splitA (LW.splitB (LW.splitC ?_))
  refine LW.nil (AW.b (AW.ts [7,8,9,10] 0 (TW.mv ?_)))
  refine TW.take rfl (Yl.extract rfl rfl) rfl ?_
  refine TW.take rfl (Yl.extract rfl rfl) rfl ?_
  refine TW.as ?_
  refine TW.nil (AW.d ?_)
  refine NW.go uE 1 rfl (CW.drawH [cr p 236 (movC old qn qq m),cr ba7 36 (itemC u0 x)] mixed ?_)
  refine AW.ts [0,1,2,3,4,5] 5 (TW.mv ?_)
  refine TW.np ?_
  refine TW.fa fa236_1 ?_
  refine TW.ld one91 ?_
  refine TW.fa fa36_1 ?_
  refine TW.ld one25 ?_
  refine TW.nil (AW.a 6 ?_)
  refine LW.cT (idx_Search W B qn m.now rn (bag0++im) u0 x.vec 1 (hn.more fun y hy=>List.mem_append_right _ hy) (hu0.more fun y hy=>List.mem_append_left _ hy) h2 (by omega)) cl36 .n3 ?_
  rintro _ _ ⟨u2,c2,rfl,ho2,rfl⟩;refine LW.splitA (LW.splitB (LW.splitC ?_))
  refine LW.nil (AW.b (AW.ts [7,8,9,10] 0 (TW.mv ?_)))
  refine TW.take rfl (Yl.extract rfl rfl) rfl ?_
  refine TW.take rfl (Yl.extract rfl rfl) rfl ?_
  refine TW.as ?_
  refine TW.nil (AW.d ?_)
  refine NW.go uE 7 rfl (LW.loadAgg ([iN m.tried,iN m.missed]) rfl .t (tal_at old qn qq m) underlying234 rfl (sze szt234) rfl ?_)
  refine LW.go uE 2 rfl (LW.eT (sha_Add W B m.tried m.missed (by omega) (by omega) u1 u2 _ _ c1 c2 ho1 ho2) cl201 .n2 ?_)
  rw [hms9,hmi];refine LW.splitA ?_
  refine LW.go uE 2 rfl (LW.sA (movC old qn qq { m with tried:=m.tried+1,missed:=mi }) szt234 (tal_one _ _) ?_)
  refine LW.go uE 8 rfl (LW.loadAgg ([.int .i64 ((m.tried+1:Nat):Int),iN mi]) rfl .t (tal_at old qn qq { m with tried:=m.tried+1,missed:=mi }) underlying234 rfl (sze szt234) rfl ?_)
  refine LW.eT (sha_Verdict W B (m.tried+1) mi) cl292 ((Take.none _)) ?_
  rw [hvd]
  refine LW.go uE 5 rfl (LW.eql ((vd==1)) rfl rfl (rfl) rfl ?_)
  refine LW.go uE 3 rfl ?_
  refine CW.cond rfl (fun hc62=>?_) (fun hc62=>?_)
  . obtain rfl:vd=1:=by simpa using hc62
    refine CW.go uE 5 rfl (LW.sr sz3 ?_)
    refine LW.go uE 10 rfl ?_
    refine NW.ret1 rfl rfl ⟨_,⟨rfl,[cr p 236 (movC old qn qq { m with tried:=m.tried+1,missed:=mi,phase:=0 })]++(rn++rq),⟨qn,qq,rn,rq,hn,hq,rfl,hh,by dsimp only;omega,by dsimp only;omega⟩,rfl⟩,?_⟩
    simp only [List.append_assoc];exact .s6
  . have hv1:vd≠1:=by simpa using hc62
    refine CW.go uE 2 rfl (LW.eql ((vd==2)) rfl rfl (rfl) rfl ?_)
    refine LW.go uE 3 rfl ?_
    refine CW.cond rfl (fun hc67=>?_) (fun hc67=>?_)
    . obtain rfl:vd=2:=by simpa using hc67
      refine CW.go uE 5 rfl (LW.sr sz3 ?_)
      refine LW.go uE 10 rfl ?_
      refine NW.ret1 rfl rfl ⟨_,⟨rfl,[cr p 236 (movC old qn qq { m with tried:=m.tried+1,missed:=mi,phase:=0 })]++(rn++rq),⟨qn,qq,rn,rq,hn,hq,rfl,hh,by dsimp only;omega,by dsimp only;omega⟩,rfl⟩,?_⟩
      simp only [List.append_assoc];exact .s6
    . obtain rfl:vd=0:=by have hv2:vd≠2:=(by simpa using hc67);omega
      refine CW.go uE 9 rfl ?_
      refine NW.ret1 rfl rfl ⟨_,⟨rfl,[cr p 236 (movC old qn qq { m with tried:=m.tried+1,missed:=mi })]++(rn++rq),⟨qn,qq,rn,rq,hn,hq,rfl,hh,by dsimp only;omega,by dsimp only;omega⟩,rfl⟩,?_⟩
      simp only [List.append_assoc];exact .s6
end
end Go.Proofs.YtnlpccoigflheaaGreatDoor
