/- TTop4 TTop5 TTop6 TTop7 -/
import Derived.Test.YtnlpccoigflheaaGreatDoorTTop3
import Derived.Test.YtnlpccoigflheaaGreatDoorFac
namespace Go.Proofs.YtnlpccoigflheaaGreatDoor
open Go.RowKit
open Go.Proofs.Tryz
def TuS:Tbl:=⟨[(41,1,5),(49,0,0),(49,1,1),(49,3,3),(49,4,4)],[],[22,23]⟩
theorem uS:TuS.Ok Tryz.prog:=.of (⟨⟨_,Tryz.underlying22⟩,⟨_,Tryz.underlying23⟩,trivial⟩)
theorem Spec.frameR {P:Program}{W:World}{B:Nat}{f:FuncId}{args:List Value}{R:Value->List Row->Prop}(h:Spec P W B f args [] R)(src:List Row):Spec P W B f args src (fun v post=>∃ q,R v q/\post=q++src):=by
 have h1:=Spec.frame h src
 rw [List.append_nil] at h1
 intro w ho hp
 refine (h1 w ho hp).mono ?_
 rintro e w' ⟨v,post,rfl,⟨q,hR,rfl⟩,hx⟩
 exact⟨v,q++src,rfl,⟨q,hR,rfl⟩,hx.sub (Sub.of_perm List.perm_append_comm)⟩
def DbR (W:World)(B:Nat)(im:List Row)(p:Nat)(mv:Value)(puts nw:Nat)(c:CorP)(rows:List Row):Prop:=
 ∃ pd pv bn bw bl g vr,VdbR W B im pv pd bn bw bl 2048 g c vr/\g.used<=200*nw/\g.serial<=(nw:Int)+1/\rows=[cr p 49 (topC pd pv 1 mv puts)]++vr
theorem DbR.more {W:World}{B:Nat}{im im':List Row}{p:Nat}{mv:Value}{puts nw:Nat}{c:CorP}{rows:List Row}(h:DbR W B im p mv puts nw c rows)(hx:∀ y∈im,y∈im'):DbR W B im' p mv puts nw c rows:=by
 obtain⟨pd,pv,bn,bw,bl,g,vr,h1,h2⟩:=h
 exact⟨pd,pv,bn,bw,bl,g,vr,h1.more hx,h2⟩
theorem op1_ok (col:Nm)(h:col.length<=12):OpOk (op1 col 2 1 1):=⟨by show (1:Int)<=1/\(1:Int)<=15;decide,h,Nat.zero_le _,Nat.zero_le _,Nat.zero_le _,fun x hx=>by simp [op1,opZ] at hx;omega⟩
theorem op2_ok (col:Nm)(h:col.length<=12):OpOk (op2 col):=⟨by show (1:Int)<=2/\(2:Int)<=15;decide,h,Nat.zero_le _,Nat.zero_le _,Nat.zero_le _,fun x hx=>by simp [op2,opZ] at hx;omega⟩
theorem op3_ok (col:Nm)(id:Int)(xs:List Int)(dr:Int)(h:col.length<=12)(h1:1<=id)(h2:id<=1000):OpOk (op3 col id (vec2 xs) [] dr):=⟨by show (1:Int)<=3/\(3:Int)<=15;decide,h,Nat.zero_le _,(vec2_ok xs).1,Nat.zero_le _,fun x hx=>by simp [op3,opZ] at hx;omega⟩
theorem op5_ok (name col:Nm)(h1:name.length<=12)(h:col.length<=12):OpOk (op5 name col):=⟨by show (1:Int)<=5/\(5:Int)<=15;decide,h,h1,Nat.zero_le _,Nat.zero_le _,fun x hx=>by simp [op5,opZ] at hx;omega⟩
theorem op13_ok (col:Nm)(xs:List Int)(h:col.length<=12):OpOk (op13 col (vec2 xs) 4):=⟨by show (1:Int)<=13/\(13:Int)<=15;decide,h,Nat.zero_le _,(vec2_ok xs).1,Nat.zero_le _,fun x hx=>by simp [op13,opZ] at hx;omega⟩
section
variable (W:World)(B:Nat)
theorem top_w (p:Nat)(mv:Value)(puts nw:Nat)(c:CorP)(Cp:CorP->Prop)(rows im:List Row)(vv:Value)(o:OpP)(hd:DbR W B im p mv puts nw c rows)(hv:VecAt W B im vv o.vec)(hk:o.kind<12)(ho:OpOk o)(hnw:nw<=200)
  (hbare:Spec prog W B 31 [opV vv o] [] (fun r post=>r=opV vv o/\post=[]))
  (hcan:∀ pc rc,CorR W B im pc c rc->Spec prog W B 38 [ptr pc,opV vv o] (rc++im) (fun r post=>r=.int .i64 0/\post=rc++im))
  (hput:Spec prog W B 19 [opV vv o] im (fun r post=>∃ u ch,r=.tuple #[u,.nilIface]/\OwnB u (encO o) ch/\post=ch++im))
  (hdo:∀ pc rc,CorR W B im pc c rc->Spec prog W B 23 [ptr pc,opV vv o] (rc++im) (fun r post=>r=.tuple #[.agg rep0.toArray,.nilIface]/\∃ c' rc' ch,Cp c'/\CorR W B (ch++im) pc c' rc'/\post=rc'++(ch++im))) :
  Spec prog W B 6 [ptr p,opV vv o] (rows++im) (fun r post=>r=.bool true/\∃ c' rows' ch,Cp c'/\DbR W B (ch++im) p mv puts (nw+1) c' rows'/\post=rows'++(ch++im)):=by
 obtain⟨pd,pv,bn,bw,bl,g,vr,hvd,hgu,hgs,rfl⟩:=hd
 have he:=encO_ok o ho
 have hrn:ringN 2048=65408:=by decide
 rw [List.append_assoc]
 refine (top_do W B p pd pv 1 mv puts vr im vv o _ hv (vdb_Do W B pv pd bn bw bl 2048 g c Cp vr im vv o (encO o) hvd hv hk (req_May W B im vv o hv ho hbare) (fun pc rc h=>core_Can W B pc rc im vv o 0 hv (hcan pc rc h)) hput hdo he.1 (by rw [hrn];omega) (by omega) (by decide))).mono ?_
 rintro r post ⟨rfl,post',⟨c',vr',ch,hcp,hvd',rfl⟩,rfl⟩
 exact⟨rfl,c',_,ch,hcp,⟨pd,pv,bn,bw,bl,logAdd g (encO o),vr',hvd',by rw [logAdd_used];omega,by show g.serial+1<=((nw+1:Nat):Int)+1;omega,rfl⟩,by rw [List.append_assoc]⟩
theorem top_op1 (p:Nat)(mv:Value)(puts nw:Nat)(c:CorP)(rows im:List Row)(col:Nm)(hd:DbR W B im p mv puts nw c rows)(hl:col.length<=12)(hnw:nw<=200)(he:createE c (op1 col 2 1 1)=0)(hs:c.seq<1000000000) :
   Spec prog W B 6 [ptr p,opV nilV (op1 col 2 1 1)] (rows++im) (fun r post=>r=.bool true/\∃ pl rows' ch,DbR W B (ch++im) p mv puts (nw+1) (createQ (seqP c) (op1 col 2 1 1) pl) rows'/\post=rows'++(ch++im)):=by
 have ho:=op1_ok col hl
 have hl2:(op1 col 2 1 1).col.length<=1000000:=by show col.length<=_;omega
 refine (top_w W B p mv puts nw c (fun c'=>∃ pl,c'=createQ (seqP c) (op1 col 2 1 1) pl) rows im nilV (op1 col 2 1 1) hd VecAt.none (by show (1:Int)<12;decide) ho hnw (req_bare1 W B col 2 1 1) (fun pc rc h=>core_can1 W B pc c rc im nilV _ h VecAt.none rfl hl2 he) ((Spec.frameR (req_Put1 W B col 2 1 1 ho) im).mono ?_) (fun pc rc h=>(core_Do1 W B pc c rc im nilV _ h VecAt.none rfl hl2 he rfl hs).mono ?_)).mono ?_
 . rintro r post ⟨q,⟨u,ch,rfl,hu,rfl⟩,rfl⟩
   exact⟨u,_,rfl,hu,rfl⟩
 . rintro r post ⟨rfl,pl,rc',ch,h1,rfl⟩
   exact⟨rfl,_,rc',ch,⟨pl,rfl⟩,h1,rfl⟩
 . rintro r post ⟨rfl,_,rows',ch,⟨pl,rfl⟩,h1,rfl⟩
   exact⟨rfl,pl,rows',ch,h1,rfl⟩
theorem top_op3 (ht:Tab W B)(p:Nat)(mv:Value)(puts nw:Nat)(c:CorP)(rows im:List Row)(col:Nm)(id dr:Int)(xs:List Int)(vv:Value)(x:ColP)(hd:DbR W B im p mv puts nw c rows)(hv:VecAt W B im vv (vec2 xs))(hl:col.length<=12)(h1:1<=id)(h2:id<=1000)(hd0:0<=dr)(hd1:dr<4294967296)(hnw:nw<=200)
   (he:putE c (op3 col id (vec2 xs) [] dr)=0) (hg:aget c.cols col=some x) (hU:usedP (putQ (seqP c) (op3 col id (vec2 xs) [] dr) x)<=64) (hs:c.seq<1000000000) :
   Spec prog W B 6 [ptr p,opV vv (op3 col id (vec2 xs) [] dr)] (rows++im) (fun r post=>r=.bool true/\∃ rows' ch,DbR W B (ch++im) p mv puts (nw+1) (putQ (seqP c) (op3 col id (vec2 xs) [] dr) x) rows'/\post=rows'++(ch++im)):=by
 have ho:=op3_ok col id xs dr hl h1 h2
 have hvo:=vec2_ok xs
 have hvl:(op3 col id (vec2 xs) [] dr).vec.length<=1000000:=by have:=hvo.1;show (vec2 xs).length<=_;omega
 have hbv:Spec prog W B 31 [opV vv (op3 col id (vec2 xs) [] dr)] [] (fun r post=>r=opV vv (op3 col id (vec2 xs) [] dr)/\post=[]):=by
   obtain⟨A,cp,rfl,_⟩:=hv
   exact req_bare3 W B col id (vec2 xs) [] dr A cp
 refine (top_w W B p mv puts nw c (fun c'=>c'=putQ (seqP c) (op3 col id (vec2 xs) [] dr) x) rows im vv (op3 col id (vec2 xs) [] dr) hd hv (by show (3:Int)<12;decide) ho hnw hbv (fun pc rc h=>core_can3 W B pc c rc im vv _ h hv rfl (Nat.zero_le _) hvl he) (req_Put3 W B col id (vec2 xs) [] dr im vv hv ho hvo hd0 hd1) (fun pc rc h=>(core_Do3 W B ht pc c rc im vv _ x h hv rfl he hg hs hd0 hd1 hU (Nat.zero_le _) hvl).mono ?_)).mono ?_
 . rintro r post ⟨rfl,rc',ch,h1,rfl⟩
   exact⟨rfl,_,rc',ch,rfl,h1,rfl⟩
 . rintro r post ⟨rfl,_,rows',ch,rfl,h1,rfl⟩
   exact⟨rfl,rows',ch,h1,rfl⟩
theorem top_op5 (p:Nat)(mv:Value)(puts nw:Nat)(c:CorP)(rows im:List Row)(name col:Nm)(hd:DbR W B im p mv puts nw c rows)(hn:name.length<=12)(hl:col.length<=12)(hnw:nw<=200)(he:namesE c (op5 name col)=0)(hs:c.seq<1000000000) :
   Spec prog W B 6 [ptr p,opV nilV (op5 name col)] (rows++im) (fun r post=>r=.bool true/\∃ rows' ch,DbR W B (ch++im) p mv puts (nw+1) (aliasQ (seqP c) (op5 name col)) rows'/\post=rows'++(ch++im)):=by
 have ho:=op5_ok name col hn hl
 have hn2:(op5 name col).name.length<=1000000:=by show name.length<=_;omega
 refine (top_w W B p mv puts nw c (fun c'=>c'=aliasQ (seqP c) (op5 name col)) rows im nilV (op5 name col) hd VecAt.none (by show (5:Int)<12;decide) ho hnw (req_bare5 W B name col) (fun pc rc h=>core_can5 W B pc c rc im nilV _ h VecAt.none rfl hn2 he) ((Spec.frameR (req_Put5 W B name col ho) im).mono ?_) (fun pc rc h=>(core_Do5 W B pc c rc im nilV _ h VecAt.none rfl hn2 he hs).mono ?_)).mono ?_
 . rintro r post ⟨q,⟨u,ch,rfl,hu,rfl⟩,rfl⟩
   exact⟨u,_,rfl,hu,rfl⟩
 . rintro r post ⟨rfl,rc',h1,rfl⟩
   exact⟨rfl,_,rc',[],rfl,h1,rfl⟩
 . rintro r post ⟨rfl,_,rows',ch,rfl,h1,rfl⟩
   exact⟨rfl,rows',ch,h1,rfl⟩
theorem top_op2 (p:Nat)(mv:Value)(puts nw:Nat)(c:CorP)(rows im:List Row)(col:Nm)(hd:DbR W B im p mv puts nw c rows)(hl:col.length<=12)(hnw:nw<=200)(hc:(aget c.cols col).isSome=true)(hna:(c.alias.any fun y=>y.2==col)=false)(hs:c.seq<1000000000) :
   Spec prog W B 6 [ptr p,opV nilV (op2 col)] (rows++im) (fun r post=>r=.bool true/\∃ q,post=q):=by
 have ho:=op2_ok col hl
 refine (top_w W B p mv puts nw c (fun _=>True) rows im nilV (op2 col) hd VecAt.none (by show (2:Int)<12;decide) ho hnw (req_bare2 W B col) (fun pc rc h=>(core_can2 W B pc c rc im nilV _ h VecAt.none rfl hc).mono ?_) ((Spec.frameR (req_Put2 W B col ho) im).mono ?_) (fun pc rc h=>(core_Do2 W B pc c rc im nilV _ h VecAt.none rfl hc hna hs).mono ?_)).mono ?_
 . rintro r post ⟨rfl,rfl⟩
   exact⟨by rw [show (op2 col).col=col from rfl,hna];rfl,rfl⟩
 . rintro r post ⟨q,⟨u,ch,rfl,hu,rfl⟩,rfl⟩
   exact⟨u,_,rfl,hu,rfl⟩
 . rintro r post ⟨rfl,rc',h1,rfl⟩
   exact⟨rfl,_,rc',[],trivial,h1,rfl⟩
 . rintro r post ⟨rfl,_⟩
   exact⟨rfl,post,rfl⟩
theorem top_op2no (p pd bn bw bl:Nat)(g:LogS)(c:CorP)(rows im:List Row)(col:Nm)(hd:VdbR W B im p pd bn bw bl 2048 g c rows)(hl:col.length<=12)(hc:(aget c.cols col).isSome=true)(ha:(c.alias.any fun y=>y.2==col)=true) :
  Spec prog W B 8 [ptr p,opV nilV (op2 col)] (rows++im) (fun r post=>∃ v ch,r=.tuple #[.agg rep0.toArray,v]/\ErrR v 4 ch/\post=ch++(rows++im)):=
 vdb_Do_no W B p pd bn bw bl 2048 g c rows im nilV (op2 col) 4 hd VecAt.none (by show (2:Int)<12;decide) (by decide) (req_May W B im nilV (op2 col) VecAt.none (op2_ok col hl) (req_bare2 W B col)) fun pc rc h=>core_Can W B pc rc im nilV (op2 col) 4 VecAt.none ((core_can2 W B pc c rc im nilV _ h VecAt.none rfl hc).mono fun r post hq=>by
  obtain⟨rfl,rfl⟩:=hq
  exact⟨by rw [show (op2 col).col=col from rfl,ha];rfl,rfl⟩)
theorem top_op13 (p pd bn bw bl:Nat)(g:LogS)(c:CorP)(rows im:List Row)(col:Nm)(xs:List Int)(vv:Value)(x:ColP)(hd:VdbR W B im p pd bn bw bl 2048 g c rows)(hv:VecAt W B im vv (vec2 xs))(hl:col.length<=12)(hf:findP c col=some x)(hx:x.dim=2) :
   Spec prog W B 8 [ptr p,opV vv (op13 col (vec2 xs) 4)] (rows++im) (fun r post=>∃ h ch,r=.tuple #[repV nilV ItemP.none h 0,.nilIface]/\OwnS 72 2 h (idxS x.x (vec2 xs) 4).length (hitsC (idxS x.x (vec2 xs) 4)) ch/\post=ch++(rows++im)):=by
 have hbv:Spec prog W B 31 [opV vv (op13 col (vec2 xs) 4)] [] (fun r post=>r=opV vv (op13 col (vec2 xs) 4)/\post=[]):=by
   obtain⟨A,cp,rfl,_⟩:=hv
   exact req_bare13 W B col (vec2 xs) 4 A cp
 refine (vdb_Ask W B p pd bn bw bl 2048 g c rows im vv (op13 col (vec2 xs) 4) hd hv (by show (12:Int)<=13;decide) (fun u x' h n ch=>u=nilV/\x'=ItemP.none/\n=0/\OwnS 72 2 h (idxS x.x (vec2 xs) 4).length (hitsC (idxS x.x (vec2 xs) 4)) ch) (req_May W B im vv _ hv (op13_ok col xs hl) hbv) (fun pc rc h=>(core_Ask13 W B pc c rc im vv _ x 4 h hv rfl hf (by rw [hx];exact vec2_may xs) rfl (by decide)).mono ?_)).mono ?_
 . rintro r post ⟨u,ch,rfl,hu,rfl⟩
   exact⟨_,_,_,_,ch,rfl,rfl,hu.one,⟨rfl,rfl,rfl,hu⟩,rfl⟩
 . rintro r post ⟨u,x',h,n,ch,rfl,⟨rfl,rfl,rfl,hu⟩,rfl⟩
   exact⟨h,ch,rfl,hu,rfl⟩
end
open Go.RowKit Go.MapKept
section
variable {P:Program}{n:Nat}{c:Ctx}{Q:Exit->Act->World->Prop}{e:Env}{h:Heap}{ops:Array Oper}{rest:List Oper}{d ty:Nat}{pos:String}{af:Array Edge}
variable {κ:Type}[DecidableEq κ]{enc:κ->Value}{kd:TypeDesc}
theorem LW.mapInsG {t kt et:Nat}{x y z:Operand}{v u:Value}{l:List (κ×Value)}{ch:List Row}{h':Heap}{k:κ}(hx:e.ev x=some v)(hy:e.ev y=some (enc k))(hz:e.ev z=some u)(hk:KeyOk kd enc)(o:OwnMap enc v l ch)(tk:Take ch h h')
  (ht:P.underlying t=some (.map kt et)) (hkt:P.underlying kt=some kd)
  (kk:∀ ch',OwnMap enc v (mset l k u) ch'->LW P n c ops Q rest e (ch'::h')):LW P n c ops Q (⟨none,.insert t x y z,ty,pos,af,none⟩::rest) e h:=
 LW.skipAct (.inl rfl) fun a w hf s=>by
  have hn:=o.nodup hk
  obtain⟨b,es,clock,rfl,rfl,hst,he⟩:=o
  have hb:=s.row tk
  have hck:∀ em,(Instr.checkKey em 10000 kt (enc k)).run P w=.ok () w:=fun em=>run_checkKey hkt (hk.key k) em 9999
  rcases findG hk he k with ⟨hm,hm2,hfn⟩ | ⟨j,u0,hj,hjk,hfn⟩
  . have hfk:=run_findKey (P:=P) (w:=w) hkt hfn
    refine⟨_,_,?_,s.setMap (o':=.map (es.push { key:=enc k,val:=u,born:=clock }) (clock+1)) tk hb,kk _ ⟨b,_,_,rfl,rfl,stamped_push hst hm2,?_⟩⟩
    . simp only [execOp,hf.eval hx,hf.eval hy,hf.eval hz,Instr.mapUpdate,Sem.run_bind,run_underlying ht,Result.andThen_ok,run_getObj_map w _ _ _ hb,hck,hfk,run_setObj_map _ hb]
      rfl
    . rw [mset_none hm,Array.toList_push,List.map_append,he]
      simp [mrep]
  . have hfk:=run_findKey (P:=P) (w:=w) hkt hfn
    refine⟨_,_,?_,s.setMap (o':=.map (es.modify j fun x=>{ x with key:=enc k,val:=u }) clock) tk hb,kk _ ⟨b,_,_,rfl,rfl,stamped_modify hst j _ (fun _ _=>rfl) (fun e2 _ h5=>by rw [h5] at hjk;simpa using hjk.symm),?_⟩⟩
    . have hks:=run_keyThatStays (P:=P) (w:=w) (d:=kd) (hk.key k)
      simp only [execOp,hf.eval hx,hf.eval hy,hf.eval hz,Instr.mapUpdate,Sem.run_bind,run_underlying ht,Result.andThen_ok,run_getObj_map w _ _ _ hb,hck,hfk,hjk,Option.getD_some,hks,run_setObj_map _ hb]
      rfl
    . rw [mset_at hj hn]
      apply List.ext_getElem?
      intro i
      have h1:(es.toList.map (fun x=>(x.key,x.val)))[i]?=(mrep enc l)[i]?:=by rw [he]
      rw [List.getElem?_map,Array.getElem?_toList] at h1
      rw [List.getElem?_map,Array.getElem?_toList,Array.getElem?_modify,mrep,List.getElem?_map,List.getElem?_set]
      have hjl:=(List.getElem?_eq_some_iff.1 hj).1
      by_cases hij:j=i
      . subst hij
        rw [if_pos rfl,if_pos rfl,if_pos hjl]
        obtain⟨y,hy1,_⟩:=Option.map_eq_some_iff.1 hjk
        rw [hy1]
        rfl
      . rw [if_neg hij,if_neg hij,h1,mrep,List.getElem?_map]
end
section
variable (W:World)(B:Nat)
theorem top_put (ht:Tab W B)(p:Nat)(mv:Value)(puts nw:Nat)(c:CorP)(rows im chm:List Row)(lst:List (Int×Value))(id:Int)(v:Value)(xs:List Int)(xa:ColP)(m n:Nat)
  (hd:DbR W B im p mv puts nw c rows) (hm:OwnMap i64k mv lst chm) (hv:VecAt W B [] v xs) (h1:1<=id) (h2:id<=1000) (hp:puts<=100) (hnw:nw<=200) (hC:C1 c xa m) (hf:FlC xa n) (hn:n<=40) (hm9:m<=1000) :
  Spec prog W B 14 [ptr p,.int .i64 id,v] (rows++(chm++im)) (fun r post=>r=.bool true/\∃ c' xa' rows' chm' lst' im',DbR W B im' p mv (puts+1) (nw+1) c' rows'/\OwnMap i64k mv lst' chm'/\C1 c' xa' (m+1)/\FlC xa' (n+1)/\post=rows'++(chm'++im')):=by
 obtain⟨pd,pv,bn,bw,bl,g,vr,hvd,hgu,hgs,rfl⟩:=hd
 obtain⟨hpe,hpg,hpu,hpc⟩:=hC.put hf hn id ((((puts+1)*2654435:Nat):Int)) h1 h2 xs
 have hsq:=hC.seq
 refine Spec.eG [[cr p 49 (topC pd pv 1 mv puts)],vr,chm,im] func14 ntmps14 fun w0=>?_
 refine CW.go uS 10 rfl (LW.load (v:=iN puts) rfl .t (rfl) one3 rfl ?_)
 refine LW.ad (((puts+1:Nat):Int)) ?_
 refine LW.go uS 2 rfl (LW.sr sz3 ?_)
 refine LW.go uS 5 rfl (LW.cT (law_Vec W B [] v xs hv) cl7 ((Take.none _)) ?_)
 rintro _ _ ⟨bq,rfl,rfl⟩;rw [List.append_nil]
 refine LW.go uS 12 rfl (LW.load (v:=.int .i64 ((puts+1:Nat):Int)) rfl .t (rfl) one3 rfl ?_)
 refine LW.mul ((((puts+1)*2654435:Nat):Int)) rfl rfl w4 rfl ?_
 refine LW.convInt ((((puts+1)*2654435:Nat):Int)) rfl underlying3 underlying30 (by rw [wrap_u32];omega) rfl ?_
 refine LW.bd [_,_,_,_,_] ((opC (vsl (bq,vec2 xs)) (op3 nmA id (vec2 xs) [] (((puts+1)*2654435:Nat):Int))).toArray) ?_
 refine LW.cT (top_op3 W B ht p mv (puts+1) nw c ([cr p 49 (topC pd pv 1 mv (puts+1))]++vr) ([cr bq 21 ((vec2 xs).map i32v)]++im) nmA id (((puts+1)*2654435:Nat):Int) xs (vsl (bq,vec2 xs)) xa ⟨pd,pv,bn,bw,bl,g,vr,hvd.more fun y hy=>List.mem_append_right _ hy,hgu,hgs,rfl⟩ (vecRow (bq,vec2 xs) (by simp)) (by decide) h1 h2 (by omega) (by omega) hnw hpe hpg hpu (by omega)) cl6 (Take.both .n2 .n2) ?_
 rintro _ _ ⟨rfl,rows',ch,⟨pd2,pv2,bn2,bw2,bl2,g2,vr2,hvd2,hgu2,hgs2,rfl⟩,rfl⟩;generalize ch++([cr bq 21 ((vec2 xs).map i32v)]++im)=im2 at hvd2 |-;refine LW.splitA (LW.splitA ?_)
 refine LW.go uS 11 rfl (LW.load (v:=mv) rfl .t (rfl) one47 rfl ?_)
 refine LW.go uS 2 rfl (LW.mapSetG rfl rfl rfl keyInt (hm) .t underlying47 underlying3 ?_)
 intro chm' hm'
 refine LW.go uS 8 rfl ?_
 refine NW.r1 ⟨_,⟨rfl,_,_,[cr p 49 (topC pd2 pv2 1 mv (puts+1))]++vr2,chm',_,im2,⟨pd2,pv2,bn2,bw2,bl2,g2,vr2,hvd2,hgu2,hgs2,rfl⟩,hm',hpc,hf.put _ _,rfl⟩,?_⟩
 simp only [List.append_assoc];exact .s4
end
open Go.RowKit
section
variable (W:World)(B:Nat)
theorem top_made (ht:Tab W B)(v0:Value)(vs:List (Value×List Int))(hv0:VecsAt W B [] v0 vs) :
   Spec prog W B 5 [.int .i64 1,.int .i64 1,v0] [] (fun r post=>∃ p mv puts nw c xa m n rows im,r=ptr p/\DbR W B im p mv puts nw c rows/\C1 c xa m/\FlC xa n/\nw<=40/\m<=40/\n<=40/\post=rows++im):=by
 have hr0:=Rest.zero (n:=2048) (by decide) (by decide)
 have hz0:=zero_slot 2048 (by decide)
 obtain⟨⟨A,cp,rfl,hcp,hl,hsrc,hA⟩,hvv⟩:=hv0
 refine Spec.eG [] func5 ntmps5 fun w0=>?_
 refine CW.go uS 7 rfl (LW.cT (dev_New W B 2048 (by decide) (by decide)) cl12 ((Take.none _)) ?_)
 rintro _ _ ⟨pd,bn,bw,bl,rfl,rfl⟩
 refine LW.go uS 1 rfl (LW.mapMakeG i64k rfl ?_)
 intro mv0 chm0 hom0;obtain⟨bm,hbm⟩:=hom0.shape;subst hbm
 refine LW.bd [_,_,_] (#[ptr pd,np,.int .i64 1,.map (some bm),.int .i64 0]) ?_
 refine LW.bx ?_
 intro bb15
 refine LW.go uS 8 rfl (LW.ld one45 ?_)
 refine LW.cG (vdb_Make W B pd bn bw bl 2048 (DevS.zero 2048) hr0.ok hr0.up (hold_slot hr0.flat (by decide) hz0) (by decide)) cl13 ?_
 rintro _ rv ⟨pv,rfl,hvd⟩
 refine LW.go uS 11 rfl (LW.ifaceNotNil _ rfl underlying43 (.inl ⟨rfl,rfl⟩) rfl ?_)
 refine LW.go uS 11 rfl (LW.sr sz46 ?_)
 refine LW.go uS 8 rfl (LW.bd [_,_,_,_,_] ((opC nilV (op1 nmA 2 1 1)).toArray) ?_)
 refine LW.cT (top_op1 W B bb15 (.map (some bm)) 0 0 CorP.new ([cr bb15 49 (topC pd pv 1 (.map (some bm)) 0)]++rv) [] nmA ⟨pd,pv,bn,bw,bl,_,rv,hvd _,by decide,by decide,rfl⟩ (by decide) (by decide) canA0 (by decide)) cl6 (Take.both .n2 (Take.none _)) ?_
 rintro _ _ ⟨rfl,pl,rows1,ch1,hd1,rfl⟩;refine LW.splitA ?_
 refine LW.go uS 5 rfl (LW.bd [_,_,_] ((opC nilV (op5 nmN nmA)).toArray) ?_)
 refine LW.go uS 1 rfl (LW.cT (top_op5 W B bb15 (.map (some bm)) 0 1 _ rows1 (ch1++[]) nmN nmA hd1 (by decide) (by decide) (by decide) (namesA pl) (by show (0:Int)+1<1000000000;decide)) cl6 .n2 ?_)
 rintro _ _ ⟨rfl,rows2,ch2,hd2,rfl⟩;generalize ch2++(ch1++[])=im2 at hd2 |-;refine LW.splitA ?_
 refine LW.go uS 15 rfl ?_
 refine CW.loopG (fun st:Nat×CorP×ColP×List Row×List Row×List (Int×Value)×List Row=>[(10,iN st.1),(2,.slice A vs.length cp),(7,ptr bb15)]) (fun st=>[st.2.2.2.1,st.2.2.2.2.2.2,st.2.2.2.2.1]) (fun st=>DbR W B st.2.2.2.2.1 bb15 (.map (some bm)) st.1 (2+st.1) st.2.1 st.2.2.2.1/\OwnMap i64k (.map (some bm)) st.2.2.2.2.2.1 st.2.2.2.2.2.2/\C1 st.2.1 st.2.2.1 (2+st.1)/\FlC st.2.2.1 st.1/\st.1<=30) (fun st=>30-st.1) (0,_,colN (op1 nmA 2 1 1) pl,rows2,im2,[],chm0) (by exact⟨hd2,hom0,C1.new pl,FlC.new rfl pl,Nat.zero_le _⟩) rfl (by repeat' constructor) ?_
 rintro⟨i,c,xa,rows,im,lst,chm⟩ ⟨hd,hm,hC,hf,hi⟩;dsimp only at hd hm hC hf hi |-
 refine CW.go uS 6 rfl ?_
 by_cases hil:i<vs.length
 . refine LW.lssT ?_
   refine LW.go uS 3 rfl ?_
   by_cases hi3:i<30
   . refine LW.go uS 1 rfl (LW.lssT ?_)
     refine LW.go uS 12 rfl (LW.ad (((i+1:Nat):Int)) ?_)
     refine LW.go uS 2 rfl ?_
     obtain⟨a,rfl⟩:∃ x,A=some x:=smA hA
     obtain⟨x,hx⟩:∃ x,vs[i]?=some x:=⟨vs[i],List.getElem?_eq_getElem hil⟩
     refine LW.indexAt rfl rfl underlying22 ixs22 (by omega) (by omega) rfl ?_
     refine LW.loadRd (v:=x.1) rfl (hsrc.rd (Take.none _)) (by rw [Int.toNat_natCast,Nat.mul_one,List.getElem?_map,hx];rfl) one25 rfl ?_
     refine LW.cT (top_put W B ht bb15 (.map (some bm)) i (2+i) c rows im chm lst ((i+1:Nat):Int) x.1 x.2 xa (2+i) i hd hm (hvv x (List.mem_of_getElem? hx)) (by omega) (by omega) (by omega) (by omega) hC hf (by omega) (by omega)) cl14 .n3 ?_
     rintro _ _ ⟨rfl,c',xa',rows',chm',lst',im',hd',hm',hC',hf',rfl⟩;refine LW.splitA (LW.splitB ?_)
     refine LW.go uS 9 rfl (LW.ad (((i+1:Nat):Int)) ?_)
     exact LW.go uS 2 rfl (NW.mG ((i+1,c',xa',rows',im',lst',chm')) (by exact⟨⟨hd',hm',hC',hf',by omega⟩,by omega⟩))
   . refine LW.go uS 1 rfl (LW.lssF ?_)
     refine LW.go uS 6 rfl (NW.then_exit (NW.go uS 9 rfl ?_))
     refine NW.ret1 rfl rfl ⟨_,⟨bb15,_,i,2+i,c,xa,2+i,i,rows,im,rfl,hd,hC,hf,by omega,by omega,by omega,rfl⟩,?_⟩
     exact .s2
 . refine LW.lssF ?_
   refine LW.go uS 9 rfl (NW.then_exit (NW.go uS 9 rfl ?_))
   refine NW.ret1 rfl rfl ⟨_,⟨bb15,_,i,2+i,c,xa,2+i,i,rows,im,rfl,hd,hC,hf,by omega,by omega,by omega,rfl⟩,?_⟩
   exact .s2
end
open Go.RowKit
def other (on:Nm):Nm:=if on=nmA then nmB else nmA
theorem other_two (on:Nm):other on=nmA\/other on=nmB:=by
 unfold other
 split
 . exact .inr rfl
 . exact .inl rfl
theorem other_len (on:Nm):(other on).length<=12:=by rcases other_two on with h | h<;>rw [h]<;>decide
theorem other_look {on:Nm}(h:on=nmA\/on=nmB):mget (mset (mset ([]:List (Nm×Value)) nmA (strV nmB)) nmB (strV nmA)) on=some (strV (other on)):=by
 rcases h with rfl | rfl<;>rfl
theorem C2.len {c:CorP}{xa xb:ColP}{on:Nm}{m:Nat}(h:C2 c xa xb on m):on.length<=12:=by rcases h.two with rfl | rfl<;>decide
section
variable (W:World)(B:Nat)
theorem law_TopAliases (h0:0<B)(hg:W.cell? ⟨0,0,none⟩=some (rty 43))(ht:Tab W B)(v0 v1 v3:Value)(vs ws:List (Value×List Int))(A2:Option Addr)(cp2:Nat)(ts:List Bool)(qs:List Int)
  (hv0:VecsAt W B [] v0 vs) (hv1:VecsAt W B [] v1 ws) (h2s:Src W B [] A2 (ts.map .bool)) (h2A:A2=none->ts.length=0) (hv3:VecAt W B [] v3 qs) :
  Spec prog W B 3 [v0,v1,.slice A2 ts.length cp2,v3] [] (fun v post=>v=.bool true/\post=[]):=by
 obtain⟨⟨A1,cp1,rfl,hcp1,hl1,hsrc1,hA1⟩,hvv1⟩:=hv1
 refine Spec.eG [] func3 ntmps3 fun w0=>?_
 refine CW.go uS 7 rfl (LW.eT (top_begun W B h0 hg ht) cl4 ((Take.none _)) ?_)
 refine LW.go uS 16 rfl (LW.cT (top_made W B ht v0 vs hv0) cl5 ((Take.none _)) ?_)
 rintro _ _ ⟨p,mv,puts,nw0,c0,xa,m0,n0,rows0,im0,rfl,hd0,hC0,hfa,hnw0,hm0,hn0,rfl⟩;refine LW.splitA ?_
 refine LW.go uS 7 rfl (LW.pn underlying27 ?_)
 refine LW.go uS 4 rfl (LW.bd [_,_,_,_,_] ((opC nilV (op1 nmB 2 1 1)).toArray) ?_)
 refine LW.go uS 1 rfl (LW.cT (top_op1 W B p mv puts nw0 c0 rows0 im0 nmB hd0 (by decide) (by omega) hC0.createB.1 (by have:=hC0.seq;omega)) cl6 .n2 ?_)
 rintro _ _ ⟨rfl,pl,rows1,ch1,hd1,rfl⟩;generalize ch1++im0=im1 at hd1 |-;refine LW.splitA ?_
 refine LW.go uS 8 rfl ?_
 refine CW.cutG (fun st:Nat×CorP×ColP×List Row×List Row=>[(2,.slice A2 ts.length cp2),(3,v3),(10,ptr p)]) (fun st=>[st.2.2.2.1,st.2.2.2.2]) (fun st=>DbR W B st.2.2.2.2 p mv puts (nw0+1+st.1) st.2.1 st.2.2.2.1/\C2 st.2.1 xa st.2.2.1 nmA (m0+1+st.1)/\FlC st.2.2.1 st.1/\st.1<=20) ?cut12_1 ?cut12_2
 case cut12_1=>
  refine CW.go uS 6 rfl ?_
  refine CW.loopG (fun st:Nat×CorP×ColP×List Row×List Row=>[(11,iN st.1),(1,.slice A1 ws.length cp1),(2,.slice A2 ts.length cp2),(3,v3),(10,ptr p)]) (fun st=>[st.2.2.2.1,st.2.2.2.2]) (fun st=>DbR W B st.2.2.2.2 p mv puts (nw0+1+st.1) st.2.1 st.2.2.2.1/\C2 st.2.1 xa st.2.2.1 nmA (m0+1+st.1)/\FlC st.2.2.1 st.1/\st.1<=20) (fun st=>20-st.1) (0,_,colN (op1 nmB 2 1 1) pl,rows1,im1) (by exact⟨hd1,hC0.createB.2 pl,FlC.new rfl pl,Nat.zero_le _⟩) rfl (by repeat' constructor) ?_
  rintro⟨i,c,xb,rows,im⟩ ⟨hd,hC,hfb,hi⟩;dsimp only at hd hC hfb hi |-
  refine CW.go uS 6 rfl ?_
  by_cases hil:i<ws.length
  . refine LW.lssT ?_
    refine LW.go uS 3 rfl ?_
    by_cases hi3:i<20
    . refine LW.go uS 1 rfl (LW.lssT ?_)
      refine LW.go uS 12 rfl (LW.ad (((i+1:Nat):Int)) ?_)
      refine LW.go uS 2 rfl ?_
      obtain⟨a,rfl⟩:∃ x,A1=some x:=smA hA1
      obtain⟨x,hx⟩:∃ x,ws[i]?=some x:=⟨ws[i],List.getElem?_eq_getElem hil⟩
      obtain⟨hpe,hpg,hpu,hpc⟩:=hC.put hfa hfb hn0 (by omega) (((i+1:Nat):Int)) 0 (by omega) (by omega) x.2
      refine LW.indexAt rfl rfl underlying22 ixs22 (by omega) (by omega) rfl ?_
      refine LW.loadRd (v:=x.1) rfl (hsrc1.rd (Take.none _)) (by rw [Int.toNat_natCast,Nat.mul_one,List.getElem?_map,hx];rfl) one25 rfl ?_
      refine LW.cT (law_Vec W B [] x.1 x.2 (hvv1 x (List.mem_of_getElem? hx))) cl7 ((Take.none _)) ?_
      rintro _ _ ⟨bq,rfl,rfl⟩;rw [List.append_nil]
      refine LW.bd [_,_,_,_] ((opC (vsl (bq,vec2 x.2)) (op3 nmB ((i+1:Nat):Int) (vec2 x.2) [] 0)).toArray) ?_
      refine LW.cT (top_op3 W B ht p mv puts (nw0+1+i) c rows ([cr bq 21 ((vec2 x.2).map i32v)]++im) nmB ((i+1:Nat):Int) 0 x.2 (vsl (bq,vec2 x.2)) xb (hd.more fun y hy=>List.mem_append_right _ hy) (vecRow (bq,vec2 x.2) (by simp)) (by decide) (by omega) (by omega) (by decide) (by decide) (by omega) hpe hpg hpu (by have:=hC.seq;omega)) cl6 .n3 ?_
      rintro _ _ ⟨rfl,rows',ch,hd',rfl⟩;generalize ch++([cr bq 21 ((vec2 x.2).map i32v)]++im)=im2 at hd' |-;refine LW.splitA ?_
      refine LW.go uS 9 rfl (LW.ad (((i+1:Nat):Int)) ?_)
      exact LW.go uS 2 rfl (NW.mG ((i+1,_,_,rows',im2)) (by exact⟨⟨hd',hpc,hfb.put _ _,by omega⟩,by omega⟩))
    . refine LW.go uS 1 rfl (LW.lssF ?_)
      exact LW.go uS 6 rfl (NW.then_exit (NW.go uS 1 rfl (NW.mG ((i,c,xb,rows,im)) (by exact⟨hd,hC,hfb,hi⟩))))
  . refine LW.lssF ?_
    exact LW.go uS 9 rfl (NW.then_exit (NW.go uS 1 rfl (NW.mG ((i,c,xb,rows,im)) (by exact⟨hd,hC,hfb,hi⟩))))
 case cut12_2=>
  rintro⟨i,c,xb,rows,im⟩ ⟨hd,hC,hfb,hi⟩;dsimp only at hd hC hfb hi |-
  refine CW.go uS 3 rfl (LW.cT (law_Vec W B [] v3 qs hv3) cl7 ((Take.none _)) ?_)
  rintro _ _ ⟨bq,rfl,rfl⟩;rw [List.append_nil];refine LW.front (p:=[cr bq 21 ((vec2 qs).map i32v)]++im) .n2 ?_;generalize hbg:[cr bq 21 ((vec2 qs).map i32v)]++im=im3;replace hd:=hd.more (im':=im3) fun y hy=>(by rw [<- hbg];exact List.mem_append_right _ hy);have hq:VecAt W B im3 (vsl (bq,vec2 qs)) (vec2 qs):=vecRow (bq,vec2 qs) (by rw [<- hbg];simp)
  refine LW.go uS 8 rfl ?_
  refine CW.cutG (fun st:Nm×CorP×Nat×Nat×List Row×List Row=>[(10,ptr p),(12,strV st.1)]) (fun st=>[st.2.2.2.2.1,st.2.2.2.2.2]) (fun st=>DbR W B st.2.2.2.2.2 p mv puts st.2.2.1 st.2.1 st.2.2.2.2.1/\C2 st.2.1 xa xb st.1 st.2.2.2.1/\st.2.2.1<=90/\st.2.2.2.1<=90) ?cut25_1 ?cut25_2
  case cut25_1=>
    refine CW.go uS 6 rfl ?_
    refine CW.loopG (fun st:Nat×Nm×CorP×Nat×Nat×List Row×List Row=>[(13,iN st.1),(2,.slice A2 ts.length cp2),(3,vsl (bq,vec2 qs)),(10,ptr p),(12,strV st.2.1)]) (fun st=>[st.2.2.2.2.2.1,st.2.2.2.2.2.2]) (fun st=>DbR W B st.2.2.2.2.2.2 p mv puts st.2.2.2.1 st.2.2.1 st.2.2.2.2.2.1/\C2 st.2.2.1 xa xb st.2.1 st.2.2.2.2.1/\VecAt W B st.2.2.2.2.2.2 (vsl (bq,vec2 qs)) (vec2 qs)/\st.2.2.2.1<=70+st.1/\st.2.2.2.2.1<=70+st.1/\st.1<=20) (fun st=>20-st.1) (0,nmA,c,nw0+1+i,m0+1+i,rows,im3) (by exact⟨hd,hC,hq,by dsimp only;omega,by dsimp only;omega,Nat.zero_le _⟩) rfl (by repeat' constructor) ?_
    rintro⟨j,on,c,nw,m,rows,im⟩ ⟨hd,hC,hq,hnw,hm,hj⟩;dsimp only at hd hC hq hnw hm hj |-
    refine CW.go uS 6 rfl ?_
    by_cases hjl:j<ts.length
    . refine LW.lssT ?_
      refine LW.go uS 3 rfl ?_
      by_cases hj3:j<20
      . refine LW.go uS 1 rfl (LW.lssT ?_)
        refine LW.go uS 8 rfl ?_
        refine CW.cutG (fun st:Nm×CorP×Nat×Nat×List Row×List Row=>[(13,iN j),(2,.slice A2 ts.length cp2),(3,vsl (bq,vec2 qs)),(10,ptr p),(12,strV st.1)]) (fun st=>[st.2.2.2.2.1,st.2.2.2.2.2]) (fun st=>DbR W B st.2.2.2.2.2 p mv puts st.2.2.1 st.2.1 st.2.2.2.2.1/\C2 st.2.1 xa xb st.1 st.2.2.2.1/\VecAt W B st.2.2.2.2.2 (vsl (bq,vec2 qs)) (vec2 qs)/\st.2.2.1<=71+j/\st.2.2.2.1<=71+j) ?cut21_1 ?cut21_2
        case cut21_1=>
         refine CW.go uS 4 rfl ?_
         obtain⟨a2,rfl⟩:∃ x,A2=some x:=smA h2A
         obtain⟨tb,htb⟩:∃ x,ts[j]?=some x:=⟨ts[j],List.getElem?_eq_getElem hjl⟩
         refine LW.indexAt rfl rfl underlying23 ixs23 (by omega) (by omega) rfl ?_
         refine LW.loadRd (v:=.bool tb) rfl (h2s.rd (Take.none _)) (by rw [Int.toNat_natCast,Nat.mul_one,List.getElem?_map,htb];rfl) one4 rfl ?_
         refine LW.go uS 2 rfl ?_
         refine CW.cond rfl (fun hc69=>?_) (fun hc69=>?_)
         . refine CW.go uS 2 rfl (LW.mapMakeG strV rfl ?_)
           intro m1 ch1 ho1
           refine LW.mapInsG (enc:=strV) (k:=nmA) (u:=strV nmB) rfl rfl rfl keyStr ho1 .t underlying34 underlying9 ?_
           intro ch2 ho2
           refine LW.mapInsG (enc:=strV) (k:=nmB) (u:=strV nmA) rfl rfl rfl keyStr ho2 .t underlying34 underlying9 ?_
           intro ch3 ho3
           refine LW.go uS 2 rfl (LW.mapHit1 (u:=strV (other on)) rfl rfl keyStr (ho3) .t underlying34 underlying9 zero9 (other_look hC.two) rfl ?_)
           refine LW.go uS 7 rfl (LW.bd [_,_,_] ((opC nilV (op5 nmN (other on))).toArray) ?_)
           refine LW.cT (top_op5 W B p mv puts nw c rows im nmN (other on) hd (by decide) (other_len on) (by omega) (hC.turn _ (other_two on)).1 (by have:=hC.seq;omega)) cl6 .n2 ?_
           rintro _ _ ⟨rfl,rows',ch,hd',rfl⟩;refine LW.splitA ?_
           exact LW.go uS 5 rfl (NW.mG ((other on,_,nw+1,m+1,rows',ch++im)) (by exact⟨hd',(hC.turn _ (other_two on)).2,hq.more fun y hy=>List.mem_append_right _ hy,by dsimp only;omega,by dsimp only;omega⟩))
         . exact CW.go uS 1 rfl (NW.mG ((on,c,nw,m,rows,im)) (by exact⟨hd,hC,hq,by dsimp only;omega,by dsimp only;omega⟩))
        case cut21_2=>
         rintro⟨on,c,nw,m,rows,im⟩ ⟨hd,hC,hq,hnw,hm⟩;dsimp only at hd hC hq hnw hm |-
         refine CW.go uS 1 rfl ?_
         obtain⟨x,hf1,hf2,hx2,hxk⟩:=hC.find hfa hfb
         have hxl:=idxS_len hxk (vec2 qs) 4
         obtain⟨pd,pv,bn,bw,bl,g,vr,hvd,hgu,hgs,rfl⟩:=hd
         refine CW.splitA ?_
         refine CW.go uS 4 rfl (LW.ld one46 ?_)
         refine LW.go uS 1 rfl (LW.bd [_,_,_,_] ((opC (vsl (bq,vec2 qs)) (op13 nmN (vec2 qs) 4)).toArray) ?_)
         refine LW.cT (top_op13 W B pv pd bn bw bl g c vr im nmN qs (vsl (bq,vec2 qs)) x hvd hq (by decide) hf1 hx2) cl8 .n2 ?_
         rintro _ _ ⟨w86,c86,rfl,ho86,rfl⟩;obtain⟨A86,cp86,rfl,_,_⟩:=ho86.val;refine LW.splitA (LW.splitB ?_)
         refine LW.go uS 3 rfl (LW.alloc zero41 rfl ?_)
         intro ba14
         refine LW.sA (repC nilV ItemP.none (.slice A86 (idxS x.x (vec2 qs) 4).length cp86) 0) szt41 (repC_one rfl _ rfl _) ?_
         refine LW.go uS 8 rfl (LW.ld one46 ?_)
         refine LW.go uS 2 rfl (LW.bd [_,_,_,_] ((opC (vsl (bq,vec2 qs)) (op13 on (vec2 qs) 4)).toArray) ?_)
         refine LW.cT (top_op13 W B pv pd bn bw bl g c vr im on qs (vsl (bq,vec2 qs)) x hvd hq hC.len hf2 hx2) cl8 .n2 ?_
         rintro _ _ ⟨w97,c97,rfl,ho97,rfl⟩;obtain⟨A97,cp97,rfl,_,_⟩:=ho97.val;refine LW.splitA (LW.splitB ?_)
         refine LW.go uS 3 rfl (LW.alloc zero41 rfl ?_)
         intro ba16
         refine LW.sA (repC nilV ItemP.none (.slice A97 (idxS x.x (vec2 qs) 4).length cp97) 0) szt41 (repC_one rfl _ rfl _) ?_
         refine LW.go uS 6 rfl (LW.ifaceNotNil _ rfl underlying43 (.inl ⟨rfl,rfl⟩) rfl ?_)
         refine LW.go uS 4 rfl (LW.ifaceNotNil _ rfl underlying43 (.inl ⟨rfl,rfl⟩) rfl ?_)
         refine LW.go uS 5 rfl (LW.load (v:=.slice A86 (idxS x.x (vec2 qs) 4).length cp86) rfl .t (rfl) one37 rfl ?_)
         refine LW.go uS 3 rfl (LW.load (v:=.slice A97 (idxS x.x (vec2 qs) 4).length cp97) rfl .t (rfl) one37 rfl ?_)
         refine LW.go uS 1 rfl (LW.eT (top_Hits W B _ _ (idxS x.x (vec2 qs) 4) c86 c97 ho86 ho97 (by omega)) cl9 .n2 ?_)
         refine LW.splitA ?_
         refine LW.go uS 11 rfl (LW.ad (((j+1:Nat):Int)) ?_)
         refine LW.go uS 2 rfl ?_
         refine NW.meet ((j+1,on,c,nw,m,[cr p 49 (topC pd pv 1 mv puts)]++vr,im)) ?j6 ?e6 ?h6
         case j6=>exact⟨⟨⟨pd,pv,bn,bw,bl,g,vr,hvd,hgu,hgs,rfl⟩,hC,hq,by dsimp only;omega,by dsimp only;omega,by dsimp only;omega⟩,by dsimp only;omega⟩
         case e6=>repeat (first | exact Env.Le.nil _ | refine Env.Le.cons rfl ?_)
         case h6=>(refine Sub.flatL fun p hp=>?_;simp only [List.flatten_cons,List.flatten_nil,List.append_nil,List.append_assoc] at hp;rw [hp];exact .s3)
      . refine LW.go uS 1 rfl (LW.lssF ?_)
        exact LW.go uS 6 rfl (NW.then_exit (NW.go uS 1 rfl (NW.mG ((on,c,nw,m,rows,im)) (by exact⟨hd,hC,by dsimp only;omega,by dsimp only;omega⟩))))
    . refine LW.lssF ?_
      exact LW.go uS 9 rfl (NW.then_exit (NW.go uS 1 rfl (NW.mG ((on,c,nw,m,rows,im)) (by exact⟨hd,hC,by dsimp only;omega,by dsimp only;omega⟩))))
  case cut25_2=>
    rintro⟨on,c,nw,m,rows,im⟩ ⟨hd,hC,hnw,hm⟩;dsimp only at hd hC hnw hm |-
    refine CW.go uS 1 rfl ?_
    obtain⟨pd,pv,bn,bw,bl,g,vr,hvd,hgu,hgs,rfl⟩:=hd
    refine CW.splitA ?_
    refine CW.go uS 4 rfl (LW.ld one46 ?_)
    refine LW.go uS 1 rfl (LW.bd [_,_] ((opC nilV (op2 on)).toArray) ?_)
    refine LW.cT (top_op2no W B pv pd bn bw bl g c vr im on hvd hC.len hC.held.1 hC.held.2) cl8 .n2 ?_
    rintro _ _ ⟨v121,c121,rfl,he,rfl⟩;obtain⟨t9,u9,rfl⟩:=he.iface (by decide);refine LW.splitA (LW.splitB ?_)
    refine LW.go uS 3 rfl (LW.alloc zero41 rfl ?_)
    intro ba18
    refine LW.sA (rep0) szt41 (rep0_one) ?_
    refine LW.go uS 6 rfl (LW.eG (code_of W B (.iface t9 u9) 4 c121 he (by decide) h0 hg) cl10 ?_)
    refine LW.eql true rfl rfl (rfl) rfl ?_
    refine LW.go uS 4 rfl (LW.bd [_,_] ((opC nilV (op5 nmN [])).toArray) ?_)
    refine LW.go uS 1 rfl (LW.cT (top_op5 W B p mv puts nw c ([cr p 49 (topC pd pv 1 mv puts)]++vr) im nmN [] ⟨pd,pv,bn,bw,bl,g,vr,hvd,hgu,hgs,rfl⟩ (by decide) (by decide) (by omega) hC.off.1 (by have:=hC.seq;omega)) cl6 (Take.both .n2 .t) ?_)
    rintro _ _ ⟨rfl,rows',ch,hd',rfl⟩;refine LW.splitA ?_
    refine LW.go uS 7 rfl (LW.bd [_,_] ((opC nilV (op2 on)).toArray) ?_)
    refine LW.go uS 1 rfl (LW.cT (top_op2 W B p mv puts (nw+1) _ rows' (ch++im) on hd' hC.len (by omega) hC.off.2.1 hC.off.2.2.1 (by have:=hC.off.2.2.2;omega)) cl6 .n2 ?_)
    rintro _ _ ⟨rfl,q,rfl⟩
    refine LW.go uS 5 rfl ?_
    refine NW.r1 ⟨_,⟨rfl,rfl⟩,?_⟩
    exact Sub.nil _
end
end Go.Proofs.YtnlpccoigflheaaGreatDoor
