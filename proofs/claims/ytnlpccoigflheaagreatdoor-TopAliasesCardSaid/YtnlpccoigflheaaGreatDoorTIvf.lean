/- TIvf -/
import Derived.Test.YtnlpccoigflheaaGreatDoorTMid
import Derived.Test.YtnlpccoigflheaaGreatDoorFac
namespace Go.Proofs.YtnlpccoigflheaaGreatDoor
open Go.RowKit
open Go.Proofs.Tryz
def Tuv:Tbl:=⟨[(247,1,1),(247,2,2),(249,0,0),(249,1,1)],[],[22,85]⟩
theorem uv:Tuv.Ok Tryz.prog:=.of (⟨⟨_,Tryz.underlying22⟩,⟨_,Tryz.underlying85⟩,trivial⟩)
def IvfMem (W:World)(B:Nat)(im:List Row)(u:Value)(x:List Int×Int):Prop:=∃ vv,u=.agg #[vv,.int .i64 x.2]/\VecAt W B im vv x.1
theorem IvfMem.more {W:World}{B:Nat}{im im':List Row}{u:Value}{x:List Int×Int}(h:IvfMem W B im u x)(hx:∀ y∈im,y∈im'):IvfMem W B im' u x:=by
 obtain⟨vv,h1,h2⟩:=h
 exact⟨vv,h1,SlAt.more h2 hx⟩
def IvfOk (l:List (Int×(List Int×Int))):Prop:=∀ x∈l,IdOk x.1/\VOk x.2.1
def IvfR (W:World)(B:Nat)(im:List Row)(p:Nat)(m:Int)(ms:List (List Int))(l:List (Int×(List Int×Int)))(rows:List Row):Prop:=
 ∃ mv chm msv mss,MapR i64k (IvfMem W B im) mv l chm/\VecsAt W B im msv mss/\mss.map (·.2)=ms/\rows=[cr p 247 [.int .i64 m,msv,mv]]++chm/\IvfOk l/\VecsIn ms/\ms.length<=16
theorem IvfR.more {W:World}{B:Nat}{im im':List Row}{p:Nat}{m:Int}{ms:List (List Int)}{l:List (Int×(List Int×Int))}{rows:List Row}(h:IvfR W B im p m ms l rows)(hx:∀ x∈im,x∈im'):IvfR W B im' p m ms l rows:=by
 obtain⟨mv,chm,msv,mss,h1,h2,h3,h4,h5⟩:=h
 exact⟨mv,chm,msv,mss,h1.mono fun u x k=>k.more hx,h2.more hx,h3,h4,h5⟩
theorem IvfR.len {W:World}{B:Nat}{im:List Row}{p:Nat}{m:Int}{ms:List (List Int)}{l:List (Int×(List Int×Int))}{rows:List Row}(h:IvfR W B im p m ms l rows):l.length<=1000:=by
 obtain⟨mv,chm,msv,mss,h1,h2,h3,h4,h5,_⟩:=h
 exact ids_len (h1.nodup keyInt) fun x hx=>(h5 x hx).1
theorem IvfOk.set {l:List (Int×(List Int×Int))}(h:IvfOk l){id:Int}{v:List Int}{k:Int}(hi:IdOk id)(hv:VOk v):IvfOk (aset l id (v,k)):=fun x hx=>by
 rcases aset_keys_mem hx with rfl | hx
 . exact⟨hi,hv⟩
 . exact h x hx
theorem filterMap_snoc {α β:Type}(f:α->Option β)(l:List α)(x:α):(l++[x]).filterMap f=l.filterMap f++(f x).toList:=by
 rw [List.filterMap_append]
 cases h:f x<;>simp [h]
section
variable (W:World)(B:Nat)
theorem idx_int (rows:List Row)(v:Value)(xs:List Int)(x:Int)(hs:SlAt W B rows v xs.length (xs.map i64k) 1)(hm:xs.length<=1000000) :
   Spec prog W B 219 [v,.int .i64 x] rows (fun r post=>r=.int .i64 (idxF (fun y=>x==y) xs 0)/\post=rows):=by
 obtain⟨A,cp,rfl,hcp,hl,hsrc,hA⟩:=hs
 refine Spec.eG [rows] func219 ntmps219 fun w0=>?_
 refine CW.go uv 14 rfl ?_
 refine CW.loopG (fun i:Nat=>[(8,iN i),(7,iN xs.length),(0,.slice A xs.length cp),(1,.int .i64 x)]) (fun _=>[rows]) (fun i=>i<=xs.length/\idxF (fun y=>x==y) xs 0=idxF (fun y=>x==y) (xs.drop i) i) (fun i=>xs.length-i) 0 (by exact⟨Nat.zero_le _,rfl⟩) rfl (by repeat' constructor) ?_
 rintro i ⟨hi,hx⟩
 refine CW.go uv 2 rfl (LW.lss (decide ((i:Int)<(xs.length:Int))) rfl rfl (rfl) rfl ?_)
 refine LW.go uv 3 rfl ?_
 refine CW.cond rfl (fun hc9=>?_) (fun hc9=>?_)
 . have hin:i<xs.length:=oT hc9
   obtain⟨a,rfl⟩:∃ x,A=some x:=smA hA
   obtain⟨y,hyi,hyd⟩:=drop_at hin
   rw [hyd,idxF] at hx
   refine CW.go uv 15 rfl (LW.indexAt rfl rfl underlying85 ixs85 (by omega) (by omega) rfl ?_)
   refine LW.loadRd (v:=.int .i64 y) rfl (hsrc.rd .t) (i64k_at hyi) one3 rfl ?_
   refine LW.eql ((x==y)) rfl rfl (rfl) rfl ?_
   refine LW.go uv 2 rfl ?_
   refine CW.cond rfl (fun hc16=>?_) (fun hc16=>?_)
   . rw [if_pos hc16] at hx
     refine CW.go uv 9 rfl (NW.then_ret ?_)
     refine NW.go uv 2 rfl ?_
     refine NW.ret1 rfl rfl ⟨_,⟨by rw [hx],rfl⟩,?_⟩
     exact (Sub.one .t)
   . rw [if_neg (by rw [hc16];decide)] at hx
     refine CW.go uv 4 rfl (LW.ad ((i+1:Int)) ?_)
     exact LW.go uv 2 rfl (NW.mG (i+1) (by exact⟨⟨hin,hx⟩,by omega⟩))
 . have hin:i=xs.length:=oF hc9
   rw [hin,List.drop_length] at hx
   refine CW.go uv 2 rfl (NW.then_exit (NW.go uv 8 rfl ?_))
   refine NW.ret1 rfl rfl ⟨_,⟨by rw [hx];rfl,rfl⟩,?_⟩
   exact (Sub.one .t)
theorem cont_int (rows:List Row)(v:Value)(xs:List Int)(x:Int)(hs:SlAt W B rows v xs.length (xs.map i64k) 1)(hm:xs.length<=1000000) :
  Spec prog W B 144 [v,.int .i64 x] rows (fun r post=>r=.bool (xs.contains x)/\post=rows):=by
 have he:xs.any (fun y=>x==y)=xs.contains x:=by rw [List.any_beq]
 refine Spec.eG [rows] func144 ntmps144 fun w0=>?_
 refine CW.go uv 9 rfl (LW.eG (idx_int W B rows v xs x hs hm) cl219 ?_)
 refine LW.geq (xs.contains x) rfl rfl (by rw [<- he];exact idxF_any _ xs 0) rfl ?_
 refine LW.go uv 4 rfl ?_
 refine NW.r1 ⟨_,⟨rfl,rfl⟩,?_⟩
 exact (Sub.one .t)
theorem ivf_copies (rows:List Row)(v:Value)(vs:List (Value×List Int))(hv:VecsAt W B rows v vs)(hm:vs.length<=1000)(hok:VecsIn (vs.map (·.2))) :
   Spec prog W B 280 [v] rows (fun r post=>∃ (ms:List (Value×List Int)) (ch bag:List Row),OwnS 25 1 r ms.length (ms.map (·.1)) ch/\ms.map (·.2)=vs.map (·.2)/\(∀ x∈ms,VecAt W B bag x.1 x.2)/\post=ch++(bag++rows)):=by
 obtain⟨⟨A,cp,rfl,hcp,hl,hsrc,hA⟩,hvv⟩:=hv
 refine Spec.eG [rows] func280 ntmps280 fun w0=>?_
 refine CW.go uv 12 rfl ?_
 refine CW.addNil (a:=[]) rfl (CW.addNil (a:=[]) rfl ?_)
 refine CW.go uv 7 rfl ?_
 refine CW.loopG (fun st:Nat×Value×List (Value×List Int)×List Row×List Row=>[(8,iN st.1),(7,iN vs.length),(6,.slice A vs.length cp),(3,st.2.1)]) (fun st=>[st.2.2.2.1,st.2.2.2.2,rows]) (fun st=>st.1<=vs.length/\OwnS 25 1 st.2.1 st.1 (st.2.2.1.map (·.1)) st.2.2.2.1/\st.2.2.1.map (·.2)=(vs.map (·.2)).take st.1/\∀ x∈st.2.2.1,VecAt W B st.2.2.2.2 x.1 x.2) (fun st=>vs.length-st.1) (0,.slice none 0 0,[],[],[]) (by exact⟨Nat.zero_le _,OwnS.nil,rfl,fun x hx=>(by cases hx)⟩) rfl (by repeat' constructor) ?_
 rintro⟨j,u,ms,ch,bag⟩ ⟨hj,ho,hms,hmv⟩;dsimp only at hj ho hms hmv |-
 refine CW.go uv 2 rfl (LW.lss (decide ((j:Int)<(vs.length:Int))) rfl rfl (rfl) rfl ?_)
 refine LW.go uv 3 rfl ?_
 refine CW.cond rfl (fun hc9=>?_) (fun hc9=>?_)
 . have hjn:j<vs.length:=oT hc9
   obtain⟨x,hxj,hxd⟩:=drop_at hjn
   obtain⟨a1,rfl⟩:∃ x,A=some x:=smA hA
   have hxm:=List.mem_of_getElem? hxj
   have hxo:=hok x.2 (List.mem_map.2 ⟨x,hxm,rfl⟩)
   have hxv:=hvv x hxm
   have hg:(vs.map (·.1))[((j:Nat):Int).toNat*1]?=some x.1:=by rw [Int.toNat_natCast,Nat.mul_one,List.getElem?_map,hxj];rfl
   refine CW.go uv 6 rfl (LW.indexAt rfl rfl underlying22 ixs22 (by omega) (by omega) rfl ?_)
   refine LW.loadRd (v:=x.1) rfl (hsrc.rd .t) (hg) one25 rfl ?_
   refine LW.go uv 6 rfl (LW.cG (vect_Copy W B rows x.1 x.2 hxv (by have:=hxo.1;omega)) cl136 ?_)
   rintro r _ ⟨c14,ho14,rfl⟩;refine LW.splitA ?_
   refine LW.buildSlice (vs:=[_]) ⟨rfl,trivial⟩ rfl (by intro v hv;simp at hv;subst hv;exact ho14.one) underlying22 info25 rfl (by decide) (by decide) rfl ?_
   intro bs15
   refine LW.append ([r]) rfl rfl underlying22 underlying22 (.inr ⟨_,rfl⟩) info25 rfl (ho) .t (fun _=>by obtain⟨A7,cp7,he7,_⟩:=ho.val;exact lenOf_slice _ _ _ _) (first_rd (RdAt.row .t (fun j v hj=>by simpa using hj)) rfl (fun h=>by cases h)) (rfl) (by intro u hu;simp at hu;subst hu;exact ho14.one) (by omega) (by omega) rfl ?_
   intro v16 ch16 ho16;refine LW.front (p:=bag) .t (LW.front (p:=c14) .t (LW.unfoc (a:=c14++bag) (List.Perm.refl _) ?_))
   refine LW.go uv 5 rfl (LW.ad ((j+1:Int)) ?_)
   exact LW.go uv 2 rfl (NW.mG ((j+1,v16,ms++[(r,x.2)],ch16,c14++bag)) (by exact⟨⟨by omega,by dsimp only;rw [List.map_append];exact ho16,by dsimp only;rw [List.map_append,hms,List.take_add_one,List.getElem?_map,hxj];rfl,by dsimp only;intro y hy;rcases List.mem_append.1 hy with hy | hy;exact (hmv y hy).right;(simp at hy;subst hy;exact ho14.vec.left)⟩,by dsimp only;omega⟩))
 . have hjn:j=vs.length:=oF hc9
   rw [hjn,List.take_of_length_le (by simp)] at hms
   refine CW.go uv 2 rfl (NW.then_exit (NW.go uv 9 rfl ?_))
   refine NW.ret1 rfl rfl ⟨_,⟨ms,ch,bag,by have h9:=congrArg List.length hms;rw [List.length_map,List.length_map] at h9;rw [h9,<- hjn];exact ho,hms,hmv,rfl⟩,?_⟩
   exact .s3
theorem ivf_Of (m:Int)(hm:MetOk m)(rows:List Row)(v:Value)(vs:List (Value×List Int))(hv:VecsAt W B rows v vs)(hn:vs.length<=16)(hok:VecsIn (vs.map (·.2))) :
  Spec prog W B 229 [.int .i64 m,v] rows (fun r post=>∃ p rows' bag,r=ptr p/\IvfR W B bag p m (vs.map (·.2)) [] rows'/\post=rows'++(bag++rows)):=by
 have hk:(decide (m=1) || decide (m=2))=true:=by rcases hm with rfl | rfl<;>rfl
 have hv':=hv
 obtain⟨⟨A,cp,rfl,hcp,hl,hsrc,hA⟩,hvv⟩:=hv'
 refine Spec.eG [rows] func229 ntmps229 fun w0=>?_
 refine CW.go uv 9 rfl (LW.eT (metric_Known W B m) cl153 ((Take.none _)) ?_)
 rw [hk]
 refine LW.go uv 7 rfl (LW.gtrF ?_)
 refine LW.go uv 10 rfl (LW.cG (ivf_copies W B rows _ vs hv (by omega) hok) cl280 ?_)
 rintro r _ ⟨ms,ch,bag,ho,hms,hmv,rfl⟩;refine LW.splitA (LW.splitB ?_)
 refine LW.mapMakeG i64k rfl ?_
 intro mv chm hom;obtain⟨bm,hbm⟩:=hom.shape;subst hbm;obtain⟨A7,cp7,rfl,hA7,hc7⟩:=ho.val
 refine LW.bd [_,_,_] (#[.int .i64 m,.slice A7 ms.length cp7,.map (some bm)]) ?_
 refine LW.bx ?_
 intro bb18
 refine LW.go uv 4 rfl ?_
 refine NW.ret1 rfl rfl ⟨_,⟨bb18,[cr bb18 247 [.int .i64 m,.slice A7 ms.length cp7,.map (some bm)]]++chm,ch++bag,rfl,⟨_,chm,_,ms,⟨[],hom,RelM.nil⟩,⟨ho.sl.more fun x hx=>List.mem_append_left _ hx,fun x hx=>(hmv x hx).right⟩,hms,rfl,fun x hx=>(by cases hx),hok,by rw [List.length_map];exact hn⟩,rfl⟩,?_⟩
 simp only [List.append_assoc];exact .s5
theorem ivf_New (m:Int)(hm:MetOk m)(rows:List Row)(v:Value)(vs:List (Value×List Int))(hv:VecsAt W B rows v vs)(hn:vs.length<=1000)(hok:VecsIn (vs.map (·.2))) :
  Spec prog W B 163 [.int .i64 m,v] rows (fun r post=>∃ p rows' bag,r=ptr p/\IvfR W B bag p m (midsP 4 3 (vs.map (·.2))) [] rows'/\post=rows'++(bag++rows)):=by
 refine Spec.eG [rows] func163 ntmps163 fun w0=>?_
 refine CW.go uv 9 rfl (LW.cG (means_Middles W B 4 3 rows v vs (by decide) (by decide) (by decide) hv hn hok) cl230 ?_)
 rintro r _ ⟨N,ms,ch,bag,hmr,hms,hmo,hN,rfl⟩
 refine LW.cG (ivf_Of W B m hm (ch++(bag++rows)) r ms hmr.vecs (by rw [hmr.1];omega) hmo) cl229 ?_
 rintro _ _ ⟨p,rows',bag2,rfl,hiv,rfl⟩;rw [hms] at hiv;refine LW.splitA (LW.splitB (LW.splitC (LW.splitD ?_)))
 refine LW.go uv 4 rfl ?_
 refine NW.r1 ⟨_,⟨p,rows',bag2,rfl,hiv,rfl⟩,?_⟩
 exact .s3
theorem ivf_Put (p:Nat)(m:Int)(ms:List (List Int))(l:List (Int×(List Int×Int)))(rows im:List Row)(id:Int)(v:Value)(xs:List Int)(hf:IvfR W B im p m ms l rows)(hv:VecAt W B im v xs)(hx:VOk xs)(hid:IdOk id) :
  Spec prog W B 97 [ptr p,.int .i64 id,v] (rows++im) (fun r post=>r=.tuple #[]/\∃ rows' ch,IvfR W B (ch++im) p m ms (ivfPut ms l id xs) rows'/\post=rows'++(ch++im)):=by
 obtain⟨mv,chm,msv,mss,⟨es,hom,hrel⟩,hmsv,hmss,rfl,hok,hin,hlen⟩:=hf
 have hml:mss.length<=16:=by rw [<- List.length_map (f:=(·.2)),hmss];exact hlen
 refine Spec.eG [[cr p 247 [.int .i64 m,msv,mv]],chm,im] func97 ntmps97 fun w0=>?_
 refine CW.go uv 3 rfl (LW.ptrNotNil _ rfl underlying157 rfl rfl ?_)
 refine LW.go uv 3 rfl (CW.drawH [cr p 247 [.int .i64 m,msv,mv]] mixed ?_)
 refine AW.ts [0,1,2,3,4,5,7,8,9,10,11] 5 (TW.mv ?_)
 refine TW.np ?_
 refine TW.fa fa247_2 ?_
 refine TW.ld one245 ?_
 refine TW.mv ?_
 refine TW.mv ?_
 refine TW.mv ?_
 refine TW.np ?_
 refine TW.fa fa247_1 ?_
 refine TW.ld one22 ?_
 refine TW.mv ?_
 refine TW.nil (AW.a 6 ?_)
 refine LW.cG (vect_Copy W B im v xs hv (by have:=hx.1;omega)) cl136 ?_
 rintro r _ ⟨ch,ho,rfl⟩;obtain⟨A14,cp14,rfl,hA14,hc14⟩:=ho.val;refine LW.splitA ?_
 refine LW.nil (AW.b (AW.a 12 ?_))
 refine LW.eG (means_Nearest W B im msv v mss xs hmsv hv (by omega) (by rw [hmss];exact hin) hx) cl166 ?_
 rw [hmss]
 refine LW.nil (AW.b (AW.ts [13,14] 1 (TW.take rfl (Yl.max2 (max (nearP ms xs) 0) rfl rfl (by split<;>omega)) rfl ?_)))
 refine TW.take rfl (Yl.build (vs:=[_,_]) (#[.slice A14 xs.length cp14,.int .i64 (max (nearP ms xs) 0)]) ⟨rfl,rfl,trivial⟩ (by kernel_rfl)) rfl ?_
 refine TW.nil (AW.a 15 ?_)
 refine LW.mapSetG rfl rfl rfl keyInt (hom) .t underlying245 underlying3 ?_
 intro chm' hom'
 refine LW.nil (AW.b (AW.d ?_))
 refine NW.end0 rfl  ⟨_,⟨rfl,[cr p 247 [.int .i64 m,msv,mv]]++chm',ch,⟨mv,chm',msv,mss,⟨_,hom',RelM.set ⟨_,rfl,ho.vec.left⟩ (hrel.mono fun u x k=>k.more fun y hy=>List.mem_append_right _ hy)⟩,hmsv.more (fun y hy=>List.mem_append_right _ hy),hmss,rfl,hok.set hid hx,hin,hlen⟩,rfl⟩,?_⟩
 simp only [List.append_assoc];exact .s4
theorem ivf_Ids (p:Nat)(m:Int)(ms:List (List Int))(l:List (Int×(List Int×Int)))(rows im:List Row)(hf:IvfR W B im p m ms l rows) :
  Spec prog W B 143 [ptr p] rows (fun r post=>∃ ch,OwnS 3 1 r l.length ((sI (l.map (·.1))).map i64k) ch/\post=ch++rows):=by
 obtain⟨mv,chm,msv,mss,hmr,hmsv,hmss,rfl,hok,hin,hlen⟩:=hf
 refine Spec.eG [[cr p 247 [.int .i64 m,msv,mv]],chm] func143 ntmps143 fun w0=>?_
 refine CW.go uv 9 rfl (LW.pn underlying157 ?_)
 refine LW.go uv 10 rfl (LW.ld one245 ?_)
 refine LW.cT (keys_218 W B mv (by obtain⟨es,h,_⟩:=hmr;exact map_cells h)) cl218 ((Take.none _)) ?_
 rintro _ _ ⟨bx,rfl,rfl⟩
 refine LW.cT (sk_218 W B bx _ mv l chm hmr (fun x hx=>(hok x hx).1)) cl150 .n2 ?_
 rintro r _ ⟨c2,ho,rfl⟩;refine LW.splitA (LW.splitB ?_)
 refine LW.go uv 4 rfl ?_
 refine NW.r1 ⟨_,⟨c2,ho,rfl⟩,?_⟩
 exact .s3
theorem ivfHits_snoc (m:Int)(ms:List (List Int))(l:List (Int×(List Int×Int)))(q:List Int){i:Nat}{id:Int}{x:List Int×Int}(h:(sI (l.map (·.1)))[i]?=some id)(hx:aget l id=some x) :
  ((sI (l.map (·.1))).take (i+1)).filterMap (fun id=>match aget l id with | some x=>if (ivfNear ms q).contains x.2 then some (id,scoreL m q x.1) else none | none=>none) =
  ((sI (l.map (·.1))).take i).filterMap (fun id=>match aget l id with | some x=>if (ivfNear ms q).contains x.2 then some (id,scoreL m q x.1) else none | none=>none)++(if (ivfNear ms q).contains x.2 then [(id,scoreL m q x.1)] else []):=by
 rw [List.take_add_one,h,show (some id).toList=[id] from rfl,filterMap_snoc,hx]
 simp only
 split<;>rfl
def ivfTo (m:Int)(ms:List (List Int))(l:List (Int×(List Int×Int)))(q:List Int)(i:Nat):List (Int×Int):=
 ((sI (l.map (·.1))).take i).filterMap (fun id=>match aget l id with | some x=>if (ivfNear ms q).contains x.2 then some (id,scoreL m q x.1) else none | none=>none)
theorem ivfTo_len (m:Int)(ms:List (List Int))(l:List (Int×(List Int×Int)))(q:List Int)(i:Nat):(ivfTo m ms l q i).length<=l.length:=by
 refine Nat.le_trans (List.length_filterMap_le _ _) ?_
 rw [List.length_take,sI_len];omega
theorem ivf_Search (p:Nat)(m:Int)(ms:List (List Int))(l:List (Int×(List Int×Int)))(rows im:List Row)(qv:Value)(q:List Int)(k:Nat)(hf:IvfR W B im p m ms l rows)(hqv:VecAt W B im qv q)(hq:VOk q)(hk:k<=100000) :
  Spec prog W B 76 [ptr p,qv,iN k] (rows++im) (fun r post=>∃ ch,OwnS 72 2 r (ivfS m ms l q k).length (hitsC (ivfS m ms l q k)) ch/\post=ch++(rows++im)):=by
 have hll:=hf.len
 have hf':=hf
 obtain⟨mv,chm,msv,mss,⟨es,hom,hrel⟩,hmsv,hmss,hrows,hok,hin,hlen⟩:=hf'
 have hml:mss.length=ms.length:=by rw [<- List.length_map (f:=(·.2)),hmss]
 have hol:=ordP_len ms q
 have hmsv':=hmsv
 obtain⟨⟨Am,cpm,rfl,hcpm,hlm,hsrcm,hAm⟩,_⟩:=hmsv'
 have hnl:(ivfNear ms q).length=if ms.length=0 then 1 else min ms.length 2:=by
  unfold ivfNear
  split
  . rename_i h;subst h;rfl
  . rename_i h;rw [if_neg (fun h0=>h (List.eq_nil_of_length_eq_zero h0)),List.length_take,List.length_append,hol,List.length_singleton];omega
 refine Spec.eG [rows,im] func76 ntmps76 fun w0=>?_
 refine CW.go uv 9 rfl (LW.pn underlying157 ?_)
 refine LW.go uv 6 rfl ?_
 subst hrows;refine CW.splitA ?_
 refine CW.go uv 4 rfl (LW.ld one22 ?_)
 refine LW.go uv 1 rfl (LW.cG (means_Order W B im _ qv mss q hmsv hqv (by omega) (by rw [hmss];exact hin) hq) cl142 ?_)
 rintro r1 _ ⟨c1,ho1,rfl⟩;rw [hmss] at ho1;refine LW.splitA ?_
 refine LW.bs [_] underlying85 info3 ?_
 intro bs20
 refine LW.append ([.int .i64 0]) rfl rfl underlying85 underlying85 (.inr ⟨_,rfl⟩) info3 rfl (ho1) .t (fun _=>lenOf_slice _ _ _ _) (first_rd (RdAt.row .t (fun j v hj=>by simpa using hj)) rfl (fun h=>by cases h)) (rfl) (by intro u hu;simp at hu;subst hu;rfl) (by omega) (by omega) rfl ?_
 intro v21 ch21 ho21;obtain⟨A2,cp2,rfl,hA2,hc2⟩:=ho21.val
 have ho21':OwnS 3 1 (.slice A2 (mss.length+1) cp2) (mss.length+1) ((ordP ms q++[0]).map i64k) ch21:=by rw [List.map_append];exact ho21
 refine LW.go uv 3 rfl ?_
 refine CW.cutG (fun st:Option Addr×Nat×Nat=>[(7,.slice st.1 st.2.1 st.2.2),(0,ptr p),(1,qv),(2,iN k)]) (fun _=>[ch21,[cr p 247 [.int .i64 m,.slice Am mss.length cpm,mv]],chm,im]) (fun st=>SlAt W B ch21 (.slice st.1 st.2.1 st.2.2) (ivfNear ms q).length ((ivfNear ms q).map i64k) 1) ?cut6_1 ?cut6_2
 case cut6_1=>
  refine CW.go uv 5 rfl (LW.ld one22 ?_)
  refine LW.go uv 1 rfl (LW.gtr (decide ((mss.length:Int)>0)) rfl rfl (rfl) rfl ?_)
  refine LW.go uv 2 rfl ?_
  refine CW.cond rfl (fun hc27=>?_) (fun hc27=>?_)
  . have hm0:ms≠[]:=by intro h;rw [h] at hml;have:=of_decide_eq_true hc27;simp at hml;simp [hml] at this
    have hnear:ivfNear ms q=(ordP ms q++[0]).take (min ms.length 2):=by unfold ivfNear;rw [if_neg hm0]
    refine CW.go uv 5 rfl (LW.ld one22 ?_)
    refine LW.go uv 1 rfl (LW.min2 (((min mss.length 2:Nat):Int)) rfl rfl (by split<;>omega) rfl ?_)
    refine LW.cutTo (min mss.length 2) rfl rfl underlying85 szt3 (by omega) (by omega) rfl ?_
    exact LW.go uv 2 rfl (NW.mG ((A2,min mss.length 2,cp2)) (by show SlAt W B ch21 _ _ _ 1;have h9:=(ho21'.cutTo (m':=min mss.length 2) (by omega)).sl (W:=W) (B:=B);rw [Nat.mul_one,<- List.map_take] at h9;rw [hnl,if_neg (fun h0=>hm0 (List.eq_nil_of_length_eq_zero h0)),hnear,<- hml];exact h9))
  . have hm0:ms=[]:=by have:=of_decide_eq_false hc27;exact List.eq_nil_of_length_eq_zero (by omega)
    have hnear:ivfNear ms q=ordP ms q++[0]:=by unfold ivfNear;rw [if_pos hm0]
    exact CW.go uv 1 rfl (NW.mG ((A2,mss.length+1,cp2)) (by show SlAt W B ch21 _ _ _ 1;have h9:=ho21'.sl (W:=W) (B:=B);rw [hnl,if_pos (by rw [hm0];rfl),hnear];rw [show mss.length=0 by rw [hml,hm0];rfl] at h9 |-;exact h9))
 case cut6_2=>
  rintro⟨A3,n3,cp3⟩ hnr;dsimp only at hnr |-;obtain rfl:n3=(ivfNear ms q).length:=by obtain⟨_,_,he,_⟩:=hnr;injection he
  refine CW.go uv 1 rfl ?_
  have hn3:(ivfNear ms q).length<=2:=by rw [hnl];split<;>omega
  refine CW.go uv 8 rfl (LW.cT (ivf_Ids W B p m ms l _ im ⟨mv,chm,_,mss,⟨es,hom,hrel⟩,hmsv,hmss,rfl,hok,hin,hlen⟩) cl143 .n2 ?_)
  rintro r1 _ ⟨c7,ho7,rfl⟩;refine LW.splitA (LW.splitB ?_)
  obtain⟨A1,cp1,rfl,hA1,hc1⟩:=ho7.val
  have hs1:=ho7.src (W:=W) (B:=B)
  refine LW.go uv 5 rfl ?_
  refine CW.loopG (fun st:Nat×Value×List Row=>[(39,iN st.1),(38,iN l.length),(37,.slice A1 l.length cp1),(8,st.2.1),(7,.slice A3 (ivfNear ms q).length cp3),(0,ptr p),(1,qv),(2,iN k)]) (fun st=>[st.2.2,c7,ch21,[cr p 247 [.int .i64 m,.slice Am mss.length cpm,mv]],chm,im]) (fun st=>st.1<=l.length/\OwnS 72 2 st.2.1 (ivfTo m ms l q st.1).length (hitsC (ivfTo m ms l q st.1)) st.2.2) (fun st=>l.length-st.1) (0,.slice none 0 0,[]) (by exact⟨Nat.zero_le _,OwnS.nil⟩) rfl (by repeat' constructor) ?_
  rintro⟨i,v,ch⟩ ⟨hi,ho⟩;dsimp only at hi ho |-
  refine CW.go uv 2 rfl (LW.lss (decide ((i:Int)<(l.length:Int))) rfl rfl (rfl) rfl ?_)
  refine LW.go uv 3 rfl ?_
  refine CW.cond rfl (fun hc40=>?_) (fun hc40=>?_)
  . have hin40:i<l.length:=oT hc40
    obtain⟨id,x,hid,hget⟩:=sI_at hin40
    obtain⟨u,hu,vv,rfl,hvv⟩:=hrel.some' hget
    have hvo:=(hok _ (aget_mem hget)).2
    obtain⟨a1,rfl⟩:∃ x,A1=some x:=smA hA1
    have hsn:=ivfHits_snoc m ms l q hid hget
    have hle:=ivfTo_len m ms l q i
    change ivfTo m ms l q (i+1)=ivfTo m ms l q i++_ at hsn
    refine CW.go uv 6 rfl (LW.indexAt rfl rfl underlying85 ixs85 (by omega) (by omega) rfl ?_)
    refine LW.loadRd (v:=.int .i64 id) rfl (hs1.rd .t) (i64k_at hid) one3 rfl ?_
    refine LW.go uv 8 rfl (LW.ld one245 ?_)
    refine LW.go uv 1 rfl (LW.mapHit1 (u:=_) rfl rfl keyInt (hom) .t underlying245 underlying3 zero249 (hu) rfl ?_)
    refine LW.alloc zero249 rfl ?_
    intro ba11
    refine LW.sA ([vv,.int .i64 x.2]) szt249 (two_one hvv.one rfl) ?_
    refine LW.go uv 6 rfl (LW.ld one3 ?_)
    refine LW.eG (cont_int W B ch21 _ (ivfNear ms q) x.2 hnr (by omega)) cl144 ?_
    refine LW.go uv 2 rfl ?_
    refine CW.cond rfl (fun hc52=>?_) (fun hc52=>?_)
    . rw [if_pos hc52] at hsn
      refine CW.drawH [cr p 247 [.int .i64 m,.slice Am mss.length cpm,mv],cr ba11 249 [vv,.int .i64 x.2]] mixed ?_
      refine AW.ts [0,1,2,3,4,5,6,7,8] 5 (TW.mv ?_)
      refine TW.mv ?_
      refine TW.mv ?_
      refine TW.np ?_
      refine TW.fa fa247_0 ?_
      refine TW.ld one3 ?_
      refine TW.mv ?_
      refine TW.fa fa249_0 ?_
      refine TW.ld one25 ?_
      refine TW.nil (AW.a 9 ?_)
      refine LW.eG (metric_Score W B m im qv vv q x.1 hqv hvv (by have:=hq.1;omega) hq.2 hvo.2) cl140 ?_
      refine LW.nil (AW.b (AW.ts [10] 3 (TW.take rfl (Yl.build (vs:=[_,_]) (#[.int .i64 id,.int .i64 (scoreL m q x.1)]) ⟨rfl,rfl,trivial⟩ (by kernel_rfl)) rfl ?_)))
      refine TW.nil (AW.a 11 ?_)
      refine LW.buildSliceA [hitC (id,scoreL m q x.1)] ⟨rfl,trivial⟩ rfl (by intro v hv;simp at hv;subst hv;rfl) (by decide) underlying37 info72 rfl (by decide) (by decide) rfl ?_
      intro bs64
      refine LW.nil (AW.b (AW.a 12 ?_))
      refine LW.append (hitC (id,scoreL m q x.1)) rfl rfl underlying37 underlying37 (.inr ⟨_,rfl⟩) info72 rfl (ho) .t (fun _=>by obtain⟨A7,cp7,he7,_⟩:=ho.val;exact lenOf_slice _ _ _ _) (first_rd (RdAt.row .t (fun j v hj=>by simpa using hj)) rfl (fun h=>by cases h)) (rfl) (hitC_one _) (by omega) (by omega) rfl ?_
      intro v' ch' ho'
      refine LW.nil (AW.b (AW.ts [13] 0 (TW.as ?_)))
      refine TW.nil (AW.d ?_)
      refine NW.go uv 3 rfl (LW.ad ((i+1:Int)) ?_)
      exact LW.go uv 2 rfl (NW.mG ((i+1,v',ch')) (by exact⟨⟨by omega,by dsimp only;rw [hsn,hitsC_app,List.length_append];exact ho'⟩,by dsimp only;omega⟩))
    . rw [if_neg (by rw [hc52];decide),List.append_nil] at hsn
      refine CW.go uv 4 rfl (LW.ad ((i+1:Int)) ?_)
      exact LW.go uv 2 rfl (NW.mG ((i+1,v,ch)) (by exact⟨⟨by omega,by dsimp only;rw [hsn];exact ho⟩,by dsimp only;omega⟩))
  . have hin40:i=l.length:=oF hc40
    have hfin:ivfTo m ms l q i=ivfHits m ms l q:=by unfold ivfTo ivfHits;rw [List.take_of_length_le (by rw [sI_len];omega)];rfl
    have hle:=ivfTo_len m ms l q i
    rw [hfin] at ho hle
    refine CW.go uv 2 rfl (NW.then_exit (NW.go uv 6 rfl (LW.cG (best_Of W B k (ivfHits m ms l q) v ch (ho.sl (W:=W) (B:=B)) (by omega) hk) cl141 ?_)))
    rintro r _ ⟨c2,ho2,rfl⟩;refine LW.splitA ?_
    refine LW.go uv 4 rfl ?_
    refine NW.r1 ⟨_,⟨c2,ho2,rfl⟩,?_⟩
    simp only [List.append_assoc];exact .s4
end
end Go.Proofs.YtnlpccoigflheaaGreatDoor
