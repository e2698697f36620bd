/- TMisc -/
import Derived.Test.YtnlpccoigflheaaGreatDoorTStore
import Derived.Test.YtnlpccoigflheaaGreatDoorFac
namespace Go.Proofs.YtnlpccoigflheaaGreatDoor
open Go.RowKit
open Go.Proofs.Tryz
def TuB:Tbl:=⟨[(120,1,1),(232,0,0),(232,1,1),(232,2,2),(234,0,0),(234,1,1),(327,0,0)],[],[325]⟩
theorem uB:TuB.Ok Tryz.prog:=.of (⟨⟨_,Tryz.underlying325⟩,trivial⟩)
def chaC (vv:Value)(x:ChaP):List Value:=[.int .i64 x.id,vv,.int .u32 (x.draw:Int),.bool x.gone]
theorem chaC_one {vv:Value}(h:vv.oneCell'=true)(x:ChaP):∀ u∈chaC vv x,u.oneCell'=true:=by
 intro u hu
 simp only [chaC,List.mem_cons,List.not_mem_nil,or_false] at hu
 rcases hu with rfl | rfl | rfl | rfl<;>first | rfl | exact h
def chsC (l:List (Value×ChaP)):List Value:=l.flatMap fun y=>chaC y.1 y.2
theorem chsC_snoc (l:List (Value×ChaP))(u:Value)(x:ChaP):chsC (l++[(u,x)])=chsC l++chaC u x:=by simp [chsC]
def QueR (W:World)(B:Nat)(im:List Row)(p most:Nat)(l:List ChaP)(rows:List Row):Prop:=
 ∃ (v:Value) (its:List (Value×ChaP)) (ch:List Row),OwnS 120 4 v its.length (chsC its) ch/\its.map (·.2)=l/\(∀ y∈its,VecAt W B im y.1 y.2.vec)/\rows=[cr p 327 [v,iN most]]++ch/\l.length<=most/\most<=2000/\1<=most
theorem QueR.more {W:World}{B:Nat}{im im':List Row}{p most:Nat}{l:List ChaP}{rows:List Row}(h:QueR W B im p most l rows)(hx:∀ x∈im,x∈im'):QueR W B im' p most l rows:=by
 obtain⟨v,its,ch,h1,h2,h3,h4⟩:=h
 exact⟨v,its,ch,h1,h2,fun y hy=>SlAt.more (h3 y hy) hx,h4⟩
def bktV (m p h:Nat):Value:=.agg #[iN m,iN p,iN h]
def bktC (m p h:Nat):List Value:=[iN m,iN p,iN h]
theorem bktC_one (m p h:Nat):∀ u∈bktC m p h,u.oneCell'=true:=by
 intro u hu
 simp only [bktC,List.mem_cons,List.not_mem_nil,or_false] at hu
 rcases hu with rfl | rfl | rfl<;>rfl
def talV (t m:Nat):Value:=.agg #[iN t,iN m]
section
variable (W:World)(B:Nat)
theorem que_New (n:Nat)(h1:1<=n)(hn:n<=2000):Spec prog W B 178 [iN n] [] (fun r post=>∃ p,r=ptr p/\∀ im,QueR W B im p n [] post):=by
 refine Spec.eG [] func178 ntmps178 fun w0=>?_
 refine CW.go uB 8 rfl (LW.max2 (n:Int) rfl rfl (by split<;>omega) rfl ?_)
 refine LW.min2 ((n:Int)) rfl rfl (by split<;>omega) rfl ?_
 refine LW.bd [_] (#[.slice none 0 0,iN n]) ?_
 refine LW.bx ?_
 intro bb7
 refine LW.go uB 4 rfl ?_
 refine NW.ret1 rfl rfl ⟨_,⟨bb7,rfl,fun im=>⟨_,[],[],OwnS.nil,rfl,fun x hx=>(by cases hx),rfl,Nat.zero_le _,hn,h1⟩⟩,?_⟩
 exact (Sub.one .t)
theorem que_copied (rows:List Row)(vv:Value)(x:ChaP)(hv:VecAt W B rows vv x.vec)(hx:VOk x.vec) :
  Spec prog W B 240 [.agg (chaC vv x).toArray] rows (fun r post=>∃ u ch,r=.agg (chaC u x).toArray/\VecAt W B ch u x.vec/\post=ch++rows):=by
 have hbx:(Value.agg (chaC vv x).toArray).cells.toList=chaC vv x:=by
  obtain⟨A,cp,rfl,_⟩:=hv
  rfl
 refine Spec.eG [rows] func240 ntmps240 fun w0=>?_
 refine CW.go uB 2 rfl (LW.bx ?_)
 intro bb1
 refine LW.alloc zero120 rfl ?_
 intro ba2
 refine LW.go uB 3 rfl ?_
 rw [hbx]
 refine CW.go uB 2 rfl (LW.load (v:=vv) rfl .t (rfl) one25 rfl ?_)
 refine LW.cG (vect_Copy W B rows vv x.vec hv (by have:=hx.1;omega)) cl136 ?_
 rintro r _ ⟨ch,ho,rfl⟩;refine LW.splitA ?_
 refine LW.go uB 1 rfl (LW.store rfl rfl .t (by show (1:Nat)<4;decide) sz25 (ho.one) ?_)
 refine LW.go uB 4 rfl (LW.loadAgg (chaC r x) rfl .t (fun j v hj=>by show (chaC r x)[0+j]?=_;rw [Nat.zero_add];exact hj) underlying120 rfl (sze szt120) rfl ?_)
 refine LW.sA (chaC r x) szt120 (chaC_one ho.one x) ?_
 refine LW.go uB 3 rfl ?_
 refine NW.res1 rfl (.cell (chaC r x) rfl .t zd underlying120 rfl szt120) ⟨_,⟨r,ch,rfl,ho.vec,rfl⟩,?_⟩
 exact .s2
theorem que_Put (p most:Nat)(l:List ChaP)(rows im:List Row)(vv:Value)(x:ChaP)(hq:QueR W B im p most l rows)(hv:VecAt W B im vv x.vec)(hx:VOk x.vec)(hlt:l.length<most) :
  Spec prog W B 173 [ptr p,.agg (chaC vv x).toArray] (rows++im) (fun r post=>r=.nilIface/\∃ rows' ch,QueR W B (ch++im) p most (l++[x]) rows'/\post=rows'++(ch++im)):=by
 obtain⟨v,its,ch,ho,hit,hiv,rfl,hlm,hm2,hm1⟩:=hq
 have hil:its.length=l.length:=by rw [<- hit,List.length_map]
 have hbx:(Value.agg (chaC vv x).toArray).cells.toList=chaC vv x:=by
  obtain⟨A,cp,rfl,_⟩:=hv
  rfl
 obtain⟨A,cp,rfl,hA,hcp⟩:=ho.val
 refine Spec.eG [[cr p 327 [.slice A its.length cp,iN most]],ch,im] func173 ntmps173 fun w0=>?_
 refine CW.go uB 1 rfl ?_
 skip
 refine CW.go uB 1 rfl (LW.bx ?_)
 intro bb3
 refine LW.go uB 8 rfl (LW.pn underlying230 ?_)
 refine LW.go uB 5 rfl (CW.drawH [cr p 327 [.slice A its.length cp,iN most]] mixed ?_)
 refine AW.ts [0,1,2,3,4,5,6,7,8,9,10] 0 (TW.mv ?_)
 refine TW.np ?_
 refine TW.fa fa327_0 ?_
 refine TW.ld one325 ?_
 refine TW.take rfl (Yl.lenSlice rfl underlying325) rfl ?_
 refine TW.mv ?_
 refine TW.np ?_
 refine TW.fa fa327_1 ?_
 refine TW.ld one3 ?_
 refine TW.take rfl (Yl.geq false rfl rfl dF) rfl ?_
 refine TW.as ?_
 refine TW.nil (AW.d ?_)
 refine NW.go uB 6 rfl ?_
 rw [hbx]
 refine CW.drawT [cr p 327 [.slice A its.length cp,iN most],cr bb3 120 (chaC vv x)] 11 mixed ?_
 refine AT.ts [(0,none),(1,none),(2,none),(3,none),(4,some []),(5,some [])] 6 (TT.mv ?_)
 refine TT.mv ?_
 refine TT.np ?_
 refine TT.fa fa327_0 ?_
 refine TT.ld one325 ?_
 refine TT.takeH rfl (Yl.loadAgg (chaC vv x) rfl (by repeat (first | exact List.Mem.head _ | refine List.Mem.tail _ ?_)) zd underlying120 rfl (sze szt120)) rfl ?_
 refine TT.nil (AT.a 6 ?_)
 refine LW.cG (que_copied W B im vv x hv hx) cl240 ?_
 rintro _ _ ⟨u,c29,rfl,hu,rfl⟩;refine LW.splitA ?_
 refine LW.nil (AT.b (AT.a 7 ?_))
 refine LW.buildSliceA [chaC u x] ⟨rfl,trivial⟩ rfl (by intro v hv;simp at hv;subst hv;rfl) (by decide) underlying325 info120 rfl (by decide) (by decide) rfl ?_
 intro bs30
 refine LW.nil (AT.b (AT.a 8 ?_))
 refine LW.append (chaC u x) rfl rfl underlying325 underlying325 (.inr ⟨_,rfl⟩) info120 rfl (ho) .t (fun _=>lenOf_slice _ _ _ _) (first_rd (RdAt.row .t (fun j v hj=>by simpa using hj)) rfl (fun h=>by cases h)) (rfl) (chaC_one hu.one x) (by omega) (by omega) rfl ?_
 intro v31 ch31 ho31
 refine LW.nil (AT.b (AT.ts [(9,none),(10,none)] 1 (TT.np ?_)))
 refine TT.fa fa327_0 ?_
 refine TT.nil (AT.a 11 ?_)
 refine LW.store rfl rfl .t (by first | decide | exact Nat.lt_of_sub_pos (by rfl) | (simp;done) | simp [devHead]) sz325 (ho31.one) ?_
 refine LW.nil (AT.backK (by kernel_rfl) ?_)
 refine AT.done (by kernel_rfl) ?_
 refine NW.go uB 7 rfl ?_
 refine NW.ret1 rfl rfl ⟨_,⟨rfl,[cr p 327 [v31,iN most]]++ch31,c29,⟨v31,its++[(u,x)],ch31,by rw [List.length_append,chsC_snoc];exact ho31,by rw [List.map_append,hit];rfl,fun y hy=>(by rcases List.mem_append.1 hy with hy | hy;exact (hiv y hy).right;(simp at hy;subst hy;exact hu.left)),rfl,by rw [List.length_append];exact hlt,hm2,hm1⟩,rfl⟩,?_⟩
 simp only [List.append_assoc];exact .s4
theorem que_Len (p most:Nat)(l:List ChaP)(rows im:List Row)(hq:QueR W B im p most l rows):Spec prog W B 135 [ptr p] rows (fun r post=>r=iN l.length/\post=rows):=by
 obtain⟨v,its,ch,ho,hit,hiv,rfl,hlm,hm2,hm1⟩:=hq
 have hil:its.length=l.length:=by rw [<- hit,List.length_map]
 obtain⟨A,cp,rfl,hA,hcp⟩:=ho.val
 refine Spec.eG [[cr p 327 [.slice A its.length cp,iN most]],ch] func135 ntmps135 fun w0=>?_
 refine CW.go uB 9 rfl (LW.pn underlying230 ?_)
 refine LW.go uB 10 rfl (LW.ld one325 ?_)
 refine LW.go uB 5 rfl ?_
 refine NW.ret1 rfl rfl ⟨_,⟨by rw [hil],rfl⟩,?_⟩
 exact .s2
theorem que_Take_none (p most:Nat)(rows im:List Row)(hq:QueR W B im p most [] rows):Spec prog W B 200 [ptr p] rows (fun r post=>r=.tuple #[.agg (chaC (.slice none 0 0) ⟨0,[],0,false⟩).toArray,.bool false]/\post=rows):=by
 refine Spec.eG [rows] func200 ntmps200 fun w0=>?_
 refine CW.go uB 2 rfl (LW.alloc zero120 rfl ?_)
 intro ba2
 refine LW.go uB 7 rfl (LW.eG (que_Len W B p most [] rows im hq) cl135 ?_)
 refine LW.eql true rfl rfl (rfl) rfl ?_
 refine LW.go uB 5 rfl (LW.build (vs:=[]) (#[.int .i64 0,.slice none 0 0,.int .u32 0,.bool false]) trivial (by kernel_rfl) rfl ?_)
 refine LW.sA (chaC (.slice none 0 0) ⟨0,[],0,false⟩) szt120 (chaC_one rfl ⟨0,[],0,false⟩) ?_
 refine LW.go uB 5 rfl ?_
 refine NW.res2 rfl (.cell (chaC (.slice none 0 0) ⟨0,[],0,false⟩) rfl .t zd underlying120 rfl szt120) (.tmp rfl) ⟨_,⟨rfl,rfl⟩,?_⟩
 exact (Sub.one .t)
theorem que_Take (p most:Nat)(x:ChaP)(l:List ChaP)(rows im:List Row)(hq:QueR W B im p most (x::l) rows):Spec prog W B 200 [ptr p] rows (fun r post=>(∃ u,r=.tuple #[.agg (chaC u x).toArray,.bool true]/\VecAt W B im u x.vec)/\post=[]):=by
 have hq':=hq
 obtain⟨v,its,ch,ho,hit,hiv,rfl,hlm,hm2,hm1⟩:=hq
 obtain⟨⟨u,y⟩,its',rfl⟩:∃ a b,its=a::b:=by cases its with | nil=>cases hit | cons a b=>exact⟨a,b,rfl⟩
 simp only [List.map_cons,List.cons.injEq] at hit
 obtain⟨rfl,hit⟩:=hit
 have huv:=hiv _ List.mem_cons_self
 rcases ho with ⟨_,h0,_,_⟩ | ⟨b,cap,slack,rfl,hxl,hcap,hsl,rfl⟩
 . cases h0
 have hcell:∀ j v,(chaC u y)[j]?=some v->(chsC ((u,y)::its')++slack)[0+j]?=some v:=fun j v hj=>by
   have e:chsC ((u,y)::its')=chaC u y++chsC its':=rfl
   have hl:=(List.getElem?_eq_some_iff.1 hj).1
   rw [Nat.zero_add,e,List.append_assoc,List.getElem?_append_left hl];exact hj
 have hN:((u,y)::its').length=its'.length+1:=rfl
 refine Spec.eG [[cr p 327 [.slice (sA b) ((u,y)::its').length cap,iN most]]++[cr b 120 (chsC ((u,y)::its')++slack)]] func200 ntmps200 fun w0=>?_
 refine CW.go uB 2 rfl (LW.alloc zero120 rfl ?_)
 intro ba2
 refine LW.go uB 7 rfl (LW.eG (que_Len W B p most (y::l) _ im hq') cl135 ?_)
 refine LW.splitA ?_
 refine LW.eql false rfl rfl (beq_eq_false_iff_ne.2 (by simp;omega)) rfl ?_
 refine LW.go uB 10 rfl (LW.ld one325 ?_)
 refine LW.indexAddr (0) rfl rfl underlying325 ixs325 (by omega) (by omega) (by simp) rfl ?_
 refine LW.loadAgg (chaC u y) rfl .t (hcell) underlying120 rfl (sze szt120) rfl ?_
 refine LW.alloc zero120 rfl ?_
 intro ba4
 refine LW.sA (chaC u y) szt120 (chaC_one huv.one y) ?_
 refine LW.go uB 8 rfl (LW.ld one325 ?_)
 refine LW.cut (1) (((u,y)::its').length) (cap) (some _) none none rfl underlying325 szt120 (fun a hf=>congrArg some (hf.eval rfl)) (fun a hf=>rfl) (fun a hf=>rfl) (.inr ⟨_,rfl⟩) (.inl ⟨rfl,rfl,rfl⟩) (.inl ⟨rfl,rfl⟩) (by omega) (by omega) (by omega) (by omega) rfl ?_
 refine LW.go uB 2 rfl (LW.sr sz325 ?_)
 refine LW.go uB 4 rfl (LW.lA (chaC u y) underlying120 szt120 ?_)
 refine LW.sA (chaC u y) szt120 (chaC_one huv.one y) ?_
 refine LW.go uB 4 rfl ?_
 refine NW.res2 rfl (.cell (chaC u y) rfl .t zd underlying120 rfl szt120) (.tmp rfl) ⟨_,⟨⟨u,rfl,huv⟩,rfl⟩,?_⟩
 exact Sub.nil _
theorem bkt_bring (n most:Nat)(h1:n<=1000000)(h2:most<=1000000):Spec prog W B 245 [iN n,iN most] [] (fun r post=>r=.int .i64 ((min n most:Nat):Int)/\post=[]):=by
 refine Spec.eG [] func245 ntmps245 fun w0=>?_
 refine CW.go uB 8 rfl (LW.max2 (n:Int) rfl rfl (by split<;>omega) rfl ?_)
 refine LW.go uB 1 rfl (LW.min2 (((min n most:Nat):Int)) rfl rfl (by split<;>omega) rfl ?_)
 refine LW.go uB 4 rfl ?_
 refine NW.r1 ⟨_,⟨rfl,rfl⟩,?_⟩
 exact Sub.nil _
theorem bkt_New (m p:Nat)(hm:m<=1000)(hp:p<=1000):Spec prog W B 179 [iN m,iN p] [] (fun r post=>r=bktV m p m/\post=[]):=by
 have h1:min m 1000=m:=by omega
 have h2:min p 1000=p:=by omega
 refine Spec.eG [] func179 ntmps179 fun w0=>?_
 refine CW.go uB 2 rfl (LW.alloc zero232 rfl ?_)
 intro ba4
 refine LW.go uB 5 rfl (LW.eT (bkt_bring W B m 1000 (by omega) (by omega)) cl245 ((Take.none _)) ?_)
 rw [h1]
 refine LW.go uB 1 rfl (LW.eT (bkt_bring W B p 1000 (by omega) (by omega)) cl245 ((Take.none _)) ?_)
 rw [h2]
 refine LW.bd [_,_,_] (#[iN m,iN p,.int .i64 0]) ?_
 refine LW.alloc zero232 rfl ?_
 intro ba5
 refine LW.sA (bktC m p 0) szt232 (bktC_one m p 0) ?_
 refine LW.go uB 5 rfl (LW.load (v:=iN m) rfl .t (rfl) one3 rfl ?_)
 refine LW.go uB 1 rfl (LW.sr sz3 ?_)
 refine LW.go uB 4 rfl (LW.loadAgg (bktC m p m) rfl .t (fun j v hj=>by show (bktC m p m)[0+j]?=_;rw [Nat.zero_add];exact hj) underlying232 rfl (sze szt232) rfl ?_)
 refine LW.sA (bktC m p m) szt232 (bktC_one m p m) ?_
 refine LW.go uB 3 rfl ?_
 refine NW.res1 rfl (.cell (bktC m p m) rfl .t zd underlying232 rfl szt232) ⟨_,⟨rfl,rfl⟩,?_⟩
 exact Sub.nil _
theorem bkt_counts (m p h:Nat)(hm:m<=1000)(hp:p<=1000)(hh:h<=m):Spec prog W B 239 [bktV m p h] [] (fun r post=>r=bktV m p h/\post=[]):=by
 have h1:min h m=h:=by omega
 refine Spec.eG [] func239 ntmps239 fun w0=>?_
 refine CW.go uB 2 rfl (LW.bx ?_)
 intro bb1
 refine LW.alloc zero232 rfl ?_
 intro ba2
 refine LW.go uB 3 rfl ?_
 rw [show (bktV m p h).cells.toList=bktC m p h from rfl]
 refine CW.go uB 2 rfl (LW.load (v:=iN m) rfl .t (rfl) one3 rfl ?_)
 refine LW.go uB 1 rfl (LW.load (v:=iN p) rfl .t (rfl) one3 rfl ?_)
 refine LW.eT (bkt_New W B m p hm hp) cl179 ((Take.none _)) ?_
 refine LW.alloc zero232 rfl ?_
 intro ba3
 refine LW.sA (bktC m p m) szt232 (bktC_one m p m) ?_
 refine LW.go uB 5 rfl (LW.load (v:=iN h) rfl .t (rfl) one3 rfl ?_)
 refine LW.go uB 1 rfl (LW.load (v:=iN m) rfl .t (rfl) one3 rfl ?_)
 refine LW.eT (bkt_bring W B h m (by omega) (by omega)) cl245 ((Take.none _)) ?_
 rw [h1]
 refine LW.go uB 1 rfl (LW.sr sz3 ?_)
 refine LW.go uB 4 rfl (LW.loadAgg (bktC m p h) rfl .t (fun j v hj=>by show (bktC m p h)[0+j]?=_;rw [Nat.zero_add];exact hj) underlying232 rfl (sze szt232) rfl ?_)
 refine LW.sA (bktC m p h) szt232 (bktC_one m p h) ?_
 refine LW.go uB 3 rfl ?_
 refine NW.res1 rfl (.cell (bktC m p h) rfl .t zd underlying232 rfl szt232) ⟨_,⟨rfl,rfl⟩,?_⟩
 exact Sub.nil _
theorem bkt_Step (m p h:Nat)(hm:m<=1000)(hp:p<=1000)(hh:h<=m):Spec prog W B 246 [bktV m p h] [] (fun r post=>r=bktV m p (min (h+p) m)/\post=[]):=by
 refine Spec.eG [] func246 ntmps246 fun w0=>?_
 refine CW.go uB 2 rfl (LW.bx ?_)
 intro bb1
 refine LW.alloc zero232 rfl ?_
 intro ba2
 refine LW.go uB 3 rfl ?_
 rw [show (bktV m p h).cells.toList=bktC m p h from rfl]
 refine CW.go uB 1 rfl (LW.lA (bktC m p h) underlying232 szt232 ?_)
 refine LW.eT (bkt_counts W B m p h hm hp hh) cl239 ((Take.none _)) ?_
 refine LW.alloc zero232 rfl ?_
 intro ba3
 refine LW.sA (bktC m p h) szt232 (bktC_one m p h) ?_
 refine LW.go uB 5 rfl (LW.load (v:=iN h) rfl .t (rfl) one3 rfl ?_)
 refine LW.go uB 1 rfl (LW.load (v:=iN p) rfl .t (rfl) one3 rfl ?_)
 refine LW.ad (((h+p:Nat):Int)) ?_
 refine LW.go uB 1 rfl (LW.load (v:=iN m) rfl .t (rfl) one3 rfl ?_)
 refine LW.min2 (((min (h+p) m:Nat):Int)) rfl rfl (by split<;>omega) rfl ?_
 refine LW.go uB 1 rfl (LW.sr sz3 ?_)
 refine LW.go uB 4 rfl (LW.loadAgg (bktC m p (min (h+p) m)) rfl .t (fun j v hj=>by show (bktC m p (min (h+p) m))[0+j]?=_;rw [Nat.zero_add];exact hj) underlying232 rfl (sze szt232) rfl ?_)
 refine LW.sA (bktC m p (min (h+p) m)) szt232 (bktC_one m p (min (h+p) m)) ?_
 refine LW.go uB 3 rfl ?_
 refine NW.res1 rfl (.cell (bktC m p (min (h+p) m)) rfl .t zd underlying232 rfl szt232) ⟨_,⟨rfl,rfl⟩,?_⟩
 exact Sub.nil _
theorem bkt_Take (m p h:Nat)(hm:m<=1000)(hp:p<=1000)(hh:h<=m):Spec prog W B 171 [bktV m p h] [] (fun r post=>r=.tuple #[bktV m p (h-1),.bool (!decide (h=0))]/\post=[]):=by
 by_cases h0:h=0
 . subst h0
   refine Spec.eG [] func171 ntmps171 fun w0=>?_
   refine CW.go uB 2 rfl (LW.bx ?_)
   intro bb1
   refine LW.alloc zero232 rfl ?_
   intro ba2
   refine LW.go uB 4 rfl ?_
   rw [show (bktV m p 0).cells.toList=bktC m p 0 from rfl]
   refine CW.go uB 1 rfl (LW.lA (bktC m p 0) underlying232 szt232 ?_)
   refine LW.eT (bkt_counts W B m p 0 hm hp hh) cl239 ((Take.none _)) ?_
   refine LW.alloc zero232 rfl ?_
   intro ba4
   refine LW.sA (bktC m p 0) szt232 (bktC_one m p 0) ?_
   refine LW.go uB 6 rfl (LW.load (v:=.int .i64 0) rfl .t (rfl) one3 rfl ?_)
   refine LW.eqlT ?_
   refine LW.go uB 5 rfl (LW.lA (bktC m p 0) underlying232 szt232 ?_)
   refine LW.sA (bktC m p 0) szt232 (bktC_one m p 0) ?_
   refine LW.go uB 5 rfl ?_
   refine NW.res2 rfl (.cell (bktC m p 0) rfl .t zd underlying232 rfl szt232) (.tmp rfl) ⟨_,⟨rfl,rfl⟩,?_⟩
   exact Sub.nil _
 ·
   refine Spec.eG [] func171 ntmps171 fun w0=>?_
   refine CW.go uB 2 rfl (LW.bx ?_)
   intro bb1
   refine LW.alloc zero232 rfl ?_
   intro ba2
   refine LW.go uB 4 rfl ?_
   rw [show (bktV m p h).cells.toList=bktC m p h from rfl]
   refine CW.go uB 1 rfl (LW.lA (bktC m p h) underlying232 szt232 ?_)
   refine LW.eT (bkt_counts W B m p h hm hp hh) cl239 ((Take.none _)) ?_
   refine LW.alloc zero232 rfl ?_
   intro ba4
   refine LW.sA (bktC m p h) szt232 (bktC_one m p h) ?_
   refine LW.go uB 6 rfl (LW.load (v:=iN h) rfl .t (rfl) one3 rfl ?_)
   refine LW.eqlF ?_
   refine LW.go uB 8 rfl (LW.load (v:=iN h) rfl .t (rfl) one3 rfl ?_)
   refine LW.sub (((h-1:Nat):Int)) rfl rfl w4 rfl ?_
   refine LW.go uB 1 rfl (LW.sr sz3 ?_)
   refine LW.go uB 4 rfl (LW.loadAgg (bktC m p (h-1)) rfl .t (fun j v hj=>by show (bktC m p (h-1))[0+j]?=_;rw [Nat.zero_add];exact hj) underlying232 rfl (sze szt232) rfl ?_)
   refine LW.sA (bktC m p (h-1)) szt232 (bktC_one m p (h-1)) ?_
   refine LW.go uB 4 rfl ?_
   refine NW.res2 rfl (.cell (bktC m p (h-1)) rfl .t zd underlying232 rfl szt232) (.tmp rfl) ⟨_,⟨by simp [h0,bktV,bktC],rfl⟩,?_⟩
   exact Sub.nil _
theorem sha_Misses (v1 v2:Value)(h1 h2:List (Int×Int))(c1 c2:List Row)(ho1:OwnS 72 2 v1 h1.length (hitsC h1) c1)(ho2:OwnS 72 2 v2 h2.length (hitsC h2) c2) :
  Spec prog W B 260 [v1,v2] (c1++c2) (fun r post=>r=.bool (missP h1 h2)/\post=c1++c2):=by
 obtain⟨A1,cp1,rfl,hA1,hcp1⟩:=ho1.val
 obtain⟨A2,cp2,rfl,hA2,hcp2⟩:=ho2.val
 cases h1 with
 | nil=>
  refine Spec.eG [c1++c2] func260 ntmps260 fun w0=>?_
  refine CW.go uB 6 rfl (CW.drawH [] mixed ?_)
  refine AW.ts [0,1,2,3,4,5,6,7,8,9,10,11,12,13,14,15,16,17,18,19] 0 (TW.mv ?_)
  refine TW.take rfl (Yl.lenSlice rfl underlying37) rfl ?_
  refine TW.take rfl (Yl.gtr false rfl rfl (decide_eq_false (by simp))) rfl ?_
  refine TW.mv ?_
  refine TW.off 8 rfl rfl rfl rfl rfl ?_
  refine TW.off 8 rfl rfl rfl rfl rfl ?_
  refine TW.off 8 rfl rfl rfl rfl rfl ?_
  refine TW.off 8 rfl rfl rfl rfl rfl ?_
  refine TW.offU 12 rfl rfl rfl rfl ?_
  refine TW.offU 12 rfl rfl rfl rfl ?_
  refine TW.offU 12 rfl rfl rfl rfl ?_
  refine TW.offU 12 rfl rfl rfl rfl ?_
  refine TW.offU 12 rfl rfl rfl rfl ?_
  refine TW.offU 12 rfl rfl rfl rfl ?_
  refine TW.offU 12 rfl rfl rfl rfl ?_
  refine TW.offU 12 rfl rfl rfl rfl ?_
  refine TW.offU 12 rfl rfl rfl rfl ?_
  refine TW.off 8 rfl rfl rfl rfl rfl ?_
  refine TW.take rfl (Yl.pickF rfl rfl) rfl ?_
  refine TW.as ?_
  refine TW.nil (AW.d ?_)
  refine NW.go uB 2 rfl ?_
  refine NW.r1 ⟨_,⟨rfl,rfl⟩,?_⟩
  exact (Sub.one .t)
 | cons x r1=>
  cases h2 with
  | nil=>
   refine Spec.eG [c1++c2] func260 ntmps260 fun w0=>?_
   refine CW.go uB 6 rfl (CW.drawH [] mixed ?_)
   refine AW.ts [0,1,2,3,4,5,6,7,8,9,10,11,12,13,14,15,16,17,18,19] 0 (TW.mv ?_)
   refine TW.take rfl (Yl.lenSlice rfl underlying37) rfl ?_
   refine TW.take rfl (Yl.gtr true rfl rfl (decide_eq_true (by have:(x::r1).length=r1.length+1:=rfl;omega))) rfl ?_
   refine TW.mv ?_
   refine TW.on 8 rfl rfl rfl (Yl.move rfl) rfl ?_
   refine TW.on 8 rfl rfl rfl (Yl.lenSlice rfl underlying37) rfl ?_
   refine TW.on 8 rfl rfl rfl (Yl.eql true rfl rfl (rfl)) rfl ?_
   refine TW.on 8 rfl rfl rfl (Yl.move rfl) rfl ?_
   refine TW.off 12 rfl rfl rfl rfl rfl ?_
   refine TW.off 12 rfl rfl rfl rfl rfl ?_
   refine TW.off 12 rfl rfl rfl rfl rfl ?_
   refine TW.off 12 rfl rfl rfl rfl rfl ?_
   refine TW.off 12 rfl rfl rfl rfl rfl ?_
   refine TW.off 12 rfl rfl rfl rfl rfl ?_
   refine TW.off 12 rfl rfl rfl rfl rfl ?_
   refine TW.off 12 rfl rfl rfl rfl rfl ?_
   refine TW.off 12 rfl rfl rfl rfl rfl ?_
   refine TW.on 8 rfl rfl rfl (Yl.pickT rfl rfl) rfl ?_
   refine TW.take rfl (Yl.pickT rfl rfl) rfl ?_
   refine TW.as ?_
   refine TW.nil (AW.d ?_)
   refine NW.go uB 2 rfl ?_
   refine NW.r1 ⟨_,⟨rfl,rfl⟩,?_⟩
   exact (Sub.one .t)
  | cons y r2=>
   rcases ho1 with ⟨_,h0,_,_⟩ | ⟨b1,k1,s1,hv1,hxl1,hk1,hs1,rfl⟩
   . cases h0
   rcases ho2 with ⟨_,h0,_,_⟩ | ⟨b2,k2,s2,hv2,hxl2,hk2,hs2,rfl⟩
   . cases h0
   injection hv1 with e1 e2 e3
   subst e1 e3
   injection hv2 with e4 e5 e6
   subst e4 e6
   refine Spec.eG [[cr b1 72 (hitsC (x::r1)++s1)],[cr b2 72 (hitsC (y::r2)++s2)]] func260 ntmps260 fun w0=>?_
   refine CW.go uB 6 rfl (CW.drawH [cr b1 72 (hitsC (x::r1)++s1),cr b2 72 (hitsC (y::r2)++s2)] mixed ?_)
   refine AW.ts [0,1,2,3,4,5,6,7,8,9,10,11,12,13,14,15,16,17,18,19] 0 (TW.mv ?_)
   refine TW.take rfl (Yl.lenSlice rfl underlying37) rfl ?_
   refine TW.take rfl (Yl.gtr true rfl rfl (decide_eq_true (by have:(x::r1).length=r1.length+1:=rfl;omega))) rfl ?_
   refine TW.mv ?_
   refine TW.on 8 rfl rfl rfl (Yl.move rfl) rfl ?_
   refine TW.on 8 rfl rfl rfl (Yl.lenSlice rfl underlying37) rfl ?_
   refine TW.on 8 rfl rfl rfl (Yl.eql false rfl rfl (beq_eq_false_iff_ne.2 (by have:(y::r2).length=r2.length+1:=rfl;omega))) rfl ?_
   refine TW.on 8 rfl rfl rfl (Yl.move rfl) rfl ?_
   refine TW.on 12 rfl rfl rfl (Yl.move rfl) rfl ?_
   refine TW.on 12 rfl rfl rfl (Yl.indexAddr (0) rfl rfl underlying37 ixs37 (by omega) (by have:(x::r1).length=r1.length+1:=rfl;omega) (by simp)) rfl ?_
   refine TW.on 12 rfl rfl rfl (Yl.fieldAddr _ rfl (fun _=>fa72_1 _ _ _)) rfl ?_
   refine TW.on 12 rfl rfl rfl (Yl.load (v:=.int .i64 x.2) rfl (by repeat (first | exact List.Mem.head _ | refine List.Mem.tail _ ?_)) (rfl) one2) rfl ?_
   refine TW.on 12 rfl rfl rfl (Yl.move rfl) rfl ?_
   refine TW.on 12 rfl rfl rfl (Yl.indexAddr (0) rfl rfl underlying37 ixs37 (by omega) (by have:(y::r2).length=r2.length+1:=rfl;omega) (by simp)) rfl ?_
   refine TW.on 12 rfl rfl rfl (Yl.fieldAddr _ rfl (fun _=>fa72_1 _ _ _)) rfl ?_
   refine TW.on 12 rfl rfl rfl (Yl.load (v:=.int .i64 y.2) rfl (by repeat (first | exact List.Mem.head _ | refine List.Mem.tail _ ?_)) (rfl) one2) rfl ?_
   refine TW.on 12 rfl rfl rfl (Yl.lss (decide (x.2<y.2)) rfl rfl (rfl)) rfl ?_
   refine TW.on 8 rfl rfl rfl (Yl.pickF rfl rfl) rfl ?_
   refine TW.take rfl (Yl.pickT rfl rfl) rfl ?_
   refine TW.as ?_
   refine TW.nil (AW.d ?_)
   refine NW.go uB 2 rfl ?_
   refine NW.r1 ⟨_,⟨rfl,rfl⟩,?_⟩
   exact .s2
theorem sha_Add (t m:Nat)(ht:t<=1000)(hm:m<=1000)(v1 v2:Value)(h1 h2:List (Int×Int))(c1 c2:List Row)(ho1:OwnS 72 2 v1 h1.length (hitsC h1) c1)(ho2:OwnS 72 2 v2 h2.length (hitsC h2) c2) :
  Spec prog W B 201 [talV t m,v1,v2] (c1++c2) (fun r post=>r=talV (t+1) (m+if missP h1 h2=true then 1 else 0)/\post=c1++c2):=by
 have e2:∀ a b:Nat,∀ u∈[Value.int .i64 (a:Int),iN b],u.oneCell'=true:=fun a b u hu=>by
  simp only [List.mem_cons,List.not_mem_nil,or_false] at hu
  rcases hu with rfl | rfl<;>rfl
 cases hb:missP h1 h2
 ·
  refine Spec.eG [c1++c2] func201 ntmps201 fun w0=>?_
  refine CW.go uB 2 rfl (LW.bx ?_)
  intro bb3
  refine LW.alloc zero234 rfl ?_
  intro ba6
  refine LW.go uB 3 rfl ?_
  rw [show (talV t m).cells.toList=[Value.int .i64 (t:Int),iN m] from rfl]
  refine CW.go uB 2 rfl (LW.load (v:=iN t) rfl .t (rfl) one3 rfl ?_)
  refine LW.ad (((t+1:Nat):Int)) ?_
  refine LW.go uB 1 rfl (LW.sr sz3 ?_)
  refine LW.go uB 7 rfl (LW.cG (sha_Misses W B v1 v2 h1 h2 c1 c2 ho1 ho2) cl260 ?_)
  rintro _ _ ⟨rfl,hpost⟩;rw [hpost,hb];clear hpost
  refine LW.go uB 7 rfl (LW.loadAgg ([.int .i64 ((t+1:Nat):Int),.int .i64 ((m):Int)]) rfl .t (fun j v hj=>by show ([.int .i64 ((t+1:Nat):Int),.int .i64 ((m):Int)]:List Value)[0+j]?=some v;rw [Nat.zero_add j];exact hj) underlying234 rfl (sze szt234) rfl ?_)
  refine LW.sA ([.int .i64 ((t+1:Nat):Int),.int .i64 ((m):Int)]) szt234 (e2 _ _) ?_
  refine LW.go uB 3 rfl ?_
  refine NW.res1 rfl (.cell ([.int .i64 ((t+1:Nat):Int),.int .i64 ((m):Int)]) rfl .t zd underlying234 rfl szt234) ⟨_,⟨rfl,rfl⟩,?_⟩
  exact (Sub.one .t)
 ·
  refine Spec.eG [c1++c2] func201 ntmps201 fun w0=>?_
  refine CW.go uB 2 rfl (LW.bx ?_)
  intro bb3
  refine LW.alloc zero234 rfl ?_
  intro ba6
  refine LW.go uB 3 rfl ?_
  rw [show (talV t m).cells.toList=[Value.int .i64 (t:Int),iN m] from rfl]
  refine CW.go uB 2 rfl (LW.load (v:=iN t) rfl .t (rfl) one3 rfl ?_)
  refine LW.ad (((t+1:Nat):Int)) ?_
  refine LW.go uB 1 rfl (LW.sr sz3 ?_)
  refine LW.go uB 7 rfl (LW.cG (sha_Misses W B v1 v2 h1 h2 c1 c2 ho1 ho2) cl260 ?_)
  rintro _ _ ⟨rfl,hpost⟩;rw [hpost,hb];clear hpost
  refine LW.go uB 5 rfl (LW.load (v:=iN m) rfl .t (rfl) one3 rfl ?_)
  refine LW.ad (((m+1:Nat):Int)) ?_
  refine LW.go uB 1 rfl (LW.sr sz3 ?_)
  refine LW.go uB 4 rfl (LW.loadAgg ([.int .i64 ((t+1:Nat):Int),.int .i64 ((m+1:Nat):Int)]) rfl .t (fun j v hj=>by show ([.int .i64 ((t+1:Nat):Int),.int .i64 ((m+1:Nat):Int)]:List Value)[0+j]?=some v;rw [Nat.zero_add j];exact hj) underlying234 rfl (sze szt234) rfl ?_)
  refine LW.sA ([.int .i64 ((t+1:Nat):Int),.int .i64 ((m+1:Nat):Int)]) szt234 (e2 _ _) ?_
  refine LW.go uB 3 rfl ?_
  refine NW.res1 rfl (.cell ([.int .i64 ((t+1:Nat):Int),.int .i64 ((m+1:Nat):Int)]) rfl .t zd underlying234 rfl szt234) ⟨_,⟨rfl,rfl⟩,?_⟩
  exact (Sub.one .t)
end
end Go.Proofs.YtnlpccoigflheaaGreatDoor
