/- TCoded -/
import Derived.Test.YtnlpccoigflheaaGreatDoorTIvf
import Derived.Test.YtnlpccoigflheaaGreatDoorFac
namespace Go.Proofs.YtnlpccoigflheaaGreatDoor
open Go.RowKit
open Go.Proofs.Tryz
def Tuw:Tbl:=⟨[(259,2,3)],[],[37,85]⟩
theorem uw:Tuw.Ok Tryz.prog:=.of (⟨⟨_,Tryz.underlying37⟩,⟨_,Tryz.underlying85⟩,trivial⟩)
abbrev CodL:=List (Int×(List Int×List Int))
def CodMem (W:World)(B:Nat)(im:List Row)(u:Value)(x:List Int×List Int):Prop:=∃ vv cv,u=.agg #[vv,cv]/\VecAt W B im vv x.1/\SlAt W B im cv x.2.length (x.2.map u8i) 1
theorem CodMem.more {W:World}{B:Nat}{im im':List Row}{u:Value}{x:List Int×List Int}(h:CodMem W B im u x)(hx:∀ y∈im,y∈im'):CodMem W B im' u x:=by
 obtain⟨vv,cv,h1,h2,h3⟩:=h
 exact⟨vv,cv,h1,SlAt.more h2 hx,h3.more hx⟩
def CodOk (n:Nat)(l:CodL):Prop:=∀ x∈l,IdOk x.1/\VOk x.2.1/\x.2.2.length=n/\∀ c∈x.2.2,Byte c
structure BookOk (los sts:List Int):Prop where
 len:sts.length=los.length
 l8:los.length<=8
 lo:∀ x∈los,InB x
 st:∀ x∈sts,StepB x
def CodR (W:World)(B:Nat)(im:List Row)(p:Nat)(m:Int)(los sts:List Int)(l:CodL)(rows:List Row):Prop:=
 ∃ mv chm A1 A2 c1 c2,MapR i64k (CodMem W B im) mv l chm/\VecAt W B im (.slice A1 los.length c1) los/\VecAt W B im (.slice A2 sts.length c2) sts/\rows=[cr p 259 [.int .i64 m,.slice A1 los.length c1,.slice A2 los.length c2,mv]]++chm/\CodOk los.length l/\BookOk los sts
theorem CodR.more {W:World}{B:Nat}{im im':List Row}{p:Nat}{m:Int}{los sts:List Int}{l:CodL}{rows:List Row}(h:CodR W B im p m los sts l rows)(hx:∀ x∈im,x∈im'):CodR W B im' p m los sts l rows:=by
 obtain⟨mv,chm,A1,A2,c1,c2,h1,h2,h3,h4⟩:=h
 exact⟨mv,chm,A1,A2,c1,c2,h1.mono fun u x k=>k.more hx,SlAt.more h2 hx,SlAt.more h3 hx,h4⟩
theorem CodR.len {W:World}{B:Nat}{im:List Row}{p:Nat}{m:Int}{los sts:List Int}{l:CodL}{rows:List Row}(h:CodR W B im p m los sts l rows):l.length<=1000:=by
 obtain⟨mv,chm,A1,A2,c1,c2,h1,h2,h3,h4,h5,_⟩:=h
 exact ids_len (h1.nodup keyInt) fun x hx=>(h5 x hx).1
theorem CodOk.set {n:Nat}{l:CodL}(h:CodOk n l){id:Int}{v c:List Int}(hi:IdOk id)(hv:VOk v)(hc:c.length=n)(hb:∀ x∈c,Byte x):CodOk n (aset l id (v,c)):=fun x hx=>by
 rcases aset_keys_mem hx with rfl | hx
 . exact⟨hi,hv,hc,hb⟩
 . exact h x hx
theorem CodMem.get {W:World}{B:Nat}{im:List Row}{es:List (Int×Value)}{l:CodL}(h:RelM (CodMem W B im) es l)(id:Int) :
  ∃ vv cv,(mget es id).getD (.agg #[.slice none 0 0,.slice none 0 0])=.agg #[vv,cv]/\VecAt W B im vv ((aget l id).getD ([],[])).1/\SlAt W B im cv ((aget l id).getD ([],[])).2.length (((aget l id).getD ([],[])).2.map u8i) 1:=by
 cases ha:aget l id with
 | none=>rw [h.none' ha];exact⟨_,_,rfl,VecAt.none,SlAt.nil⟩
 | some x=>obtain⟨u,hu,vv,cv,rfl,hv,hc⟩:=h.some' ha;rw [hu];exact⟨vv,cv,rfl,hv,hc⟩
theorem CodOk.getD {n:Nat}{l:CodL}(h:CodOk n l)(id:Int):VOk ((aget l id).getD ([],[])).1:=by
 cases ha:aget l id with
 | none=>exact⟨Nat.zero_le _,fun x hx=>by cases hx⟩
 | some x=>exact (h _ (aget_mem ha)).2.1
theorem codeF_len (los sts xs:List Int):(codeF los sts xs).length=los.length:=by simp [codeF]
theorem codeF_byte (los sts xs:List Int):∀ c∈codeF los sts xs,Byte c:=fun c hc=>by
 unfold codeF at hc
 obtain⟨i,_,rfl⟩:=List.mem_map.1 hc
 exact codeB_in _ _ _
theorem backF_ok {los:List Int}(sts cs:List Int)(h:los.length<=8):VOk (backF los sts cs):=⟨by simp [backF];exact h,fun x hx=>by
 unfold backF at hx
 obtain⟨i,_,rfl⟩:=List.mem_map.1 hx
 exact backB_in _ _ _⟩
theorem lows_ok {dim:Nat}{vs:List (List Int)}(h:dim<=8)(hv:VecsIn vs):BookOk (lows dim vs) (steps dim vs):=by
 have hin:∀ v∈vs,∀ x∈v,InB x:=fun v hv'=>(hv v hv').2
 refine⟨by simp [lows,steps],by simp [lows];exact h,fun x hx=>?_,fun x hx=>?_⟩
 . unfold lows at hx
   obtain⟨i,_,rfl⟩:=List.mem_map.1 hx
   exact (lohi_in i vs hin).1
 . unfold steps at hx
   obtain⟨i,_,rfl⟩:=List.mem_map.1 hx
   have:=lohi_in i vs hin
   unfold InB at this
   unfold stepF StepB
   omega
def rescored (m:Int)(l:CodL)(q:List Int)(h:Int×Int):Int×Int:=(h.1,scoreL m q ((aget l h.1).getD ([],[])).1)
theorem hitsC_setS {l:List (Int×Int)}{i:Nat}{x:Int×Int}(hx:l[i]?=some x)(s:Int)(slack:List Value):(hitsC l++slack).set (i*2+1) (.int .i64 s)=hitsC (l.set i (x.1,s))++slack:=by
 have hi:=(List.getElem?_eq_some_iff.1 hx).1
 rw [List.set_append_left _ _ (by rw [hitsC_len];omega)]
 congr 1
 induction l generalizing i with
 | nil=>cases hx
 | cons y r ih=>
  cases i with
  | zero=>
   simp at hx;subst hx
   simp [hitsC,hitC]
  | succ i=>
   simp only [List.getElem?_cons_succ] at hx
   have h1:=ih hx (by simpa using hi)
   have e1:hitsC (y::r)=hitC y++hitsC r:=rfl
   have e2:hitsC ((y::r).set (i+1) (x.1,s))=hitC y++hitsC (r.set i (x.1,s)):=rfl
   rw [e1,e2,<- h1,show (i+1)*2+1=(hitC y).length+(i*2+1) by simp [hitC];omega,List.set_append_right _ _ (by omega)]
   congr 2
   omega
theorem mid_get {x a b d v:Value}:∀ {j:Nat},[a,b][j]?=some v->[x,a,b,d][0+1+j]?=some v
 | 0,h=>h
 | 1,h=>h
 | j+2,h=>by cases h
theorem b20row (los sts xs:List Int)(b:Nat):OwnS 5 1 (.slice (sA b) los.length los.length) (codeF los sts xs).length ((codeF los sts xs).map u8i) [cr b 5 ((codeF los sts xs).map u8i)]:=by
 have:=OwnS.row (t:=5) (sz:=1) (b:=b) (m:=los.length) (xs:=(codeF los sts xs).map u8i) (by rw [List.length_map,codeF_len,Nat.mul_one])
 rw [codeF_len];exact this
theorem resc_step {α:Type}(f:α->α){l:List α}{i:Nat}{x:α}(h:l[i]?=some x):((l.take i).map f++l.drop i).set i (f x)=(l.take (i+1)).map f++l.drop (i+1):=by
 have hi:=(List.getElem?_eq_some_iff.1 h).1
 have h1:((l.take i).map f).length=i:=by simp;omega
 rw [List.set_append_right _ _ (by omega),h1,Nat.sub_self,List.drop_eq_getElem_cons hi,List.set_cons_zero,List.take_add_one,h]
 simp
section
variable (W:World)(B:Nat)
theorem cod_copied (A1 A2:Option Addr)(c1 c2:Nat)(los sts:List Int)(rows:List Row)(hb:BookOk los sts)(hl1:VecAt W B rows (.slice A1 los.length c1) los)(hl2:VecAt W B rows (.slice A2 sts.length c2) sts) :
  Spec prog W B 284 [bookV A1 A2 los.length c1 c2] rows (fun r post=>∃ B1 B2 d1 d2 ch,r=bookV B1 B2 los.length d1 d2/\VecAt W B ch (.slice B1 los.length d1) los/\VecAt W B ch (.slice B2 sts.length d2) sts/\post=ch++rows):=by
 have hl:=hb.len
 have h8:=hb.l8
 refine Spec.eG [rows] func284 ntmps284 fun w0=>?_
 refine CW.go uw 2 rfl (LW.bx ?_)
 intro bb1
 refine LW.alloc zero256 rfl ?_
 intro ba2
 refine LW.go uw 3 rfl (CW.drawH [cr bb1 256 [.slice A1 los.length c1,.slice A2 los.length c2]] mixed ?_)
 refine AW.ts [0,1,3,4] 4 (TW.fa fa256_0 ?_)
 refine TW.ld one24 ?_
 refine TW.fa fa256_1 ?_
 refine TW.ld one24 ?_
 refine TW.nil (AW.a 2 ?_)
 refine LW.cG (cl_336 W B rows (.slice A1 los.length c1) los.length (los.map i32v) hl1 (i32v_one los) (by omega)) cl336 ?_
 rintro r1 _ ⟨ch1,ho1,rfl⟩;obtain⟨B1,d1,rfl,hB1,hd1⟩:=ho1.val;refine LW.splitA ?_
 refine LW.nil (AW.b (AW.a 5 ?_))
 refine LW.cG (cl_336 W B rows (.slice A2 los.length c2) los.length (sts.map i32v) (by rw [<- hl];exact hl2) (i32v_one sts) (by omega)) cl336 ?_
 rintro r2 _ ⟨ch2,ho2,rfl⟩;obtain⟨B2,d2,rfl,hB2,hd2⟩:=ho2.val;refine LW.splitA ?_
 refine LW.nil (AW.b (AW.ts [6] 1 (TW.take rfl (Yl.build (vs:=[_,_]) (#[.slice B1 los.length d1,.slice B2 los.length d2]) ⟨rfl,rfl,trivial⟩ (by kernel_rfl)) rfl ?_)))
 refine TW.nil (AW.a 7 ?_)
 refine LW.sA ([.slice B1 los.length d1,.slice B2 los.length d2]) szt256 (two_one rfl rfl) ?_
 refine LW.nil (AW.b (AW.d ?_))
 refine NW.go uw 2 rfl ?_
 refine NW.res1 rfl (.cell ([.slice B1 los.length d1,.slice B2 los.length d2]) rfl .t zd underlying256 rfl szt256) ⟨_,⟨B1,B2,d1,d2,ch1++ch2,rfl,(OwnS.vec ho1).left,(OwnS.vec (by rw [hl];exact ho2)).right,rfl⟩,?_⟩
 simp only [List.append_assoc];exact .s3
theorem cod_Of (m:Int)(hm:MetOk m)(A1 A2:Option Addr)(c1 c2:Nat)(los sts:List Int)(rows:List Row)(hb:BookOk los sts)(hl1:VecAt W B rows (.slice A1 los.length c1) los)(hl2:VecAt W B rows (.slice A2 sts.length c2) sts) :
  Spec prog W B 231 [.int .i64 m,bookV A1 A2 los.length c1 c2] rows (fun r post=>∃ p rows' bag,r=ptr p/\CodR W B bag p m los sts [] rows'/\post=rows'++(bag++rows)):=by
 have hk:(decide (m=1) || decide (m=2))=true:=by rcases hm with rfl | rfl<;>rfl
 refine Spec.eG [rows] func231 ntmps231 fun w0=>?_
 refine CW.go uw 2 rfl (LW.bx ?_)
 intro bb3
 refine LW.go uw 7 rfl (LW.eT (metric_Known W B m) cl153 ((Take.none _)) ?_)
 rw [hk]
 refine LW.go uw 9 rfl (LW.lA ([.slice A1 los.length c1,.slice A2 los.length c2]) underlying256 szt256 ?_)
 refine LW.cG (cod_copied W B A1 A2 c1 c2 los sts rows hb hl1 hl2) cl284 ?_
 rintro _ _ ⟨B1,B2,d1,d2,ch,rfl,hv1,hv2,rfl⟩;refine LW.splitA ?_
 refine LW.mapMakeG i64k rfl ?_
 intro mv chm hom;obtain⟨bm,hbm⟩:=hom.shape;subst hbm
 refine LW.bd [_,_,_] (#[.int .i64 m,.slice B1 los.length d1,.slice B2 los.length d2,.map (some bm)]) ?_
 refine LW.bx ?_
 intro bb13
 refine LW.go uw 4 rfl ?_
 refine NW.ret1 rfl rfl ⟨_,⟨bb13,[cr bb13 259 [.int .i64 m,.slice B1 los.length d1,.slice B2 los.length d2,.map (some bm)]]++chm,ch,rfl,⟨_,chm,B1,B2,d1,d2,⟨[],hom,RelM.nil⟩,hv1,hv2,rfl,fun x hx=>(by cases hx),hb⟩,rfl⟩,?_⟩
 simp only [List.append_assoc];exact .s4
theorem cod_New (m:Int)(hm:MetOk m)(dim:Nat)(h1:1<=dim)(h8:dim<=8)(rows:List Row)(v:Value)(vs:List (Value×List Int))(hv:VecsAt W B rows v vs)(hn:vs.length<=1000)(hmay:∀ x∈vs,mayV x.2 (dim:Int)=true) :
  Spec prog W B 165 [.int .i64 m,iN dim,v] rows (fun r post=>∃ p rows' bag,r=ptr p/\CodR W B bag p m (lows dim (vs.map (·.2))) (steps dim (vs.map (·.2))) [] rows'/\post=rows'++(bag++rows)):=by
 have hin:VecsIn (vs.map (·.2)):=fun x hx=>by
  obtain⟨q,hq,rfl⟩:=List.mem_map.1 hx
  have:=mayV_of (hmay q hq)
  exact⟨by omega,this.2⟩
 have hb:=lows_ok h8 hin
 have hll:(lows dim (vs.map (·.2))).length=dim:=by simp [lows]
 have hls:(steps dim (vs.map (·.2))).length=dim:=by simp [steps]
 have hof:=fun b1 b2=>cod_Of W B m hm (some ⟨b1,0,none⟩) (some ⟨b2,0,none⟩) dim dim (lows dim (vs.map (·.2))) (steps dim (vs.map (·.2))) ([cr b1 21 ((lows dim (vs.map (·.2))).map i32v)]++([cr b2 21 ((steps dim (vs.map (·.2))).map i32v)]++rows)) hb
  (VecAt.left (OwnS.vec (by have:=OwnS.row (t:=21) (sz:=1) (b:=b1) (m:=dim) (xs:=(lows dim (vs.map (·.2))).map i32v) (by simp [hll]);rw [hll];exact this)))
  (VecAt.right (VecAt.left (OwnS.vec (by have:=OwnS.row (t:=21) (sz:=1) (b:=b2) (m:=dim) (xs:=(steps dim (vs.map (·.2))).map i32v) (by simp [hls]);rw [hls];exact this))))
 rw [hll] at hof
 refine Spec.eG [rows] func165 ntmps165 fun w0=>?_
 refine CW.go uw 10 rfl (LW.cG (quant_Make W B dim vs.length rows v vs hv hn h1 h8 hmay) cl232 ?_)
 rintro _ _ ⟨b1,b2,rfl,rfl⟩
 refine LW.cG (hof b1 b2) cl231 ?_
 rintro _ _ ⟨p,rows',bag,rfl,hc,rfl⟩;refine LW.splitA (LW.splitB (LW.splitC (LW.splitD ?_)))
 refine LW.go uw 4 rfl ?_
 refine NW.r1 ⟨_,⟨p,rows',bag,rfl,hc,rfl⟩,?_⟩
 exact .s3
theorem cod_Put (p:Nat)(m:Int)(los sts:List Int)(l:CodL)(rows im:List Row)(id:Int)(v:Value)(xs:List Int)(hf:CodR W B im p m los sts l rows)(hv:VecAt W B im v xs)(hx:VOk xs)(hxl:xs.length=los.length)(hid:IdOk id) :
  Spec prog W B 99 [ptr p,.int .i64 id,v] (rows++im) (fun r post=>r=.tuple #[]/\∃ rows' ch,CodR W B (ch++im) p m los sts (aset l id (xs,codeF los sts xs)) rows'/\post=rows'++(ch++im)):=by
 obtain⟨mv,chm,A1,A2,c1,c2,⟨es,hom,hrel⟩,hl1,hl2,rfl,hok,hb⟩:=hf
 have h8:=hb.l8
 refine Spec.eG [[cr p 259 [.int .i64 m,.slice A1 los.length c1,.slice A2 los.length c2,mv]],chm,im] func99 ntmps99 fun w0=>?_
 refine CW.go uw 3 rfl (LW.ptrNotNil _ rfl underlying159 rfl rfl ?_)
 refine LW.go uw 3 rfl (CW.drawH [cr p 259 [.int .i64 m,.slice A1 los.length c1,.slice A2 los.length c2,mv]] mixed ?_)
 refine AW.ts [0,1,2,3,4,5,7,8,9,10,11] 4 (TW.mv ?_)
 refine TW.np ?_
 refine TW.fa fa259_2 ?_
 refine TW.ld one257 ?_
 refine TW.mv ?_
 refine TW.mv ?_
 refine TW.mv ?_
 refine TW.np ?_
 refine TW.fa fa259_1 ?_
 refine TW.take rfl (Yl.loadAgg ([.slice A1 los.length c1,.slice A2 los.length c2]) rfl (by repeat (first | exact List.Mem.head _ | refine List.Mem.tail _ ?_)) (fun j v hj=>mid_get hj) underlying256 rfl (sze szt256)) rfl ?_
 refine TW.mv ?_
 refine TW.nil (AW.a 6 ?_)
 refine LW.cG (vect_Copy W B im v xs hv (by have:=hx.1;omega)) cl136 ?_
 rintro r _ ⟨ch,ho,rfl⟩;obtain⟨A14,cp14,rfl,hA14,hc14⟩:=ho.val;refine LW.splitA ?_
 refine LW.nil (AW.b (AW.a 12 ?_))
 refine LW.cG (quant_Code W B A1 A2 c1 c2 los sts xs v im hb.len hxl hl1 hl2 hv hb.lo hb.st hx.2 (by omega)) cl170 ?_
 rintro _ _ ⟨b20,rfl,rfl⟩;refine LW.splitA ?_
 refine LW.nil (AW.b (AW.ts [13] 1 (TW.take rfl (Yl.build (vs:=[_,_]) (#[.slice A14 xs.length cp14,.slice (sA b20) los.length los.length]) ⟨rfl,rfl,trivial⟩ (by kernel_rfl)) rfl ?_)))
 refine TW.nil (AW.a 14 ?_)
 refine LW.mapSetG rfl rfl rfl keyInt (hom) .t underlying257 underlying3 ?_
 intro chm' hom'
 refine LW.nil (AW.b (AW.d ?_))
 refine NW.end0 rfl  ⟨_,⟨rfl,[cr p 259 [.int .i64 m,.slice A1 los.length c1,.slice A2 los.length c2,mv]]++chm',ch++[cr b20 5 ((codeF los sts xs).map u8i)],⟨mv,chm',A1,A2,c1,c2,⟨_,hom',RelM.set ⟨_,_,rfl,ho.vec.left.left,SlAt.more (OwnS.sl (t:=5) (b20row los sts xs b20)) (fun y hy=>List.mem_append_left _ (List.mem_append_right _ hy))⟩ (hrel.mono fun u x k=>k.more fun y hy=>List.mem_append_right _ hy)⟩,hl1.right,hl2.right,rfl,hok.set hid hx (codeF_len _ _ _) (codeF_byte _ _ _),hb⟩,rfl⟩,?_⟩
 simp only [List.append_assoc];exact .s5
theorem cod_Ids (p:Nat)(m:Int)(los sts:List Int)(l:CodL)(rows im:List Row)(hf:CodR W B im p m los sts l rows) :
  Spec prog W B 148 [ptr p] rows (fun r post=>∃ ch,OwnS 3 1 r l.length ((sI (l.map (·.1))).map i64k) ch/\post=ch++rows):=by
 obtain⟨mv,chm,A1,A2,c1,c2,hmr,hl1,hl2,rfl,hok,hb⟩:=hf
 refine Spec.eG [[cr p 259 [.int .i64 m,.slice A1 los.length c1,.slice A2 los.length c2,mv]],chm] func148 ntmps148 fun w0=>?_
 refine CW.go uw 9 rfl (LW.pn underlying159 ?_)
 refine LW.go uw 10 rfl (LW.ld one257 ?_)
 refine LW.cT (keys_224 W B mv (by obtain⟨es,h,_⟩:=hmr;exact map_cells h)) cl224 ((Take.none _)) ?_
 rintro _ _ ⟨bx,rfl,rfl⟩
 refine LW.cT (sk_224 W B bx _ mv l chm hmr (fun x hx=>(hok x hx).1)) cl150 .n2 ?_
 rintro r _ ⟨c2,ho,rfl⟩;refine LW.splitA (LW.splitB ?_)
 refine LW.go uw 4 rfl ?_
 refine NW.r1 ⟨_,⟨c2,ho,rfl⟩,?_⟩
 exact .s3
theorem codHits_len (m:Int)(los sts:List Int)(l:CodL)(q:List Int):(codHits m los sts l q).length=l.length:=by rw [codHits,List.length_map,sI_len]
theorem bestOf_len (k:Nat)(hs:List (Int×Int)):(bestOf k hs).length<=k:=by
 unfold bestOf
 suffices h:∀ (hs l:List (Int×Int)),l.length<=k->(hs.foldl (putB k) l).length<=k from h hs [] (Nat.zero_le _)
 intro hs
 induction hs with
 | nil=>intro l h;exact h
 | cons x r ih=>intro l h;rw [List.foldl_cons];exact ih _ (putB_len h)
set_option maxHeartbeats 1000000 in
theorem cod_Search (p:Nat)(m:Int)(los sts:List Int)(l:CodL)(rows im:List Row)(qv:Value)(q:List Int)(k:Nat)(hf:CodR W B im p m los sts l rows)(hqv:VecAt W B im qv q)(hq:VOk q)(hk:k<=10000) :
   Spec prog W B 78 [ptr p,qv,iN k] (rows++im) (fun r post=>∃ ch,OwnS 72 2 r (codS m los sts l q k).length (hitsC (codS m los sts l q k)) ch/\post=ch++(rows++im)):=by
 have hll:=hf.len
 have hf':=hf
 obtain⟨mv,chm,A1,A2,c1,c2,⟨es,hom,hrel⟩,hl1,hl2,hrows,hok,hb⟩:=hf'
 have h8:=hb.l8
 have hhl:=codHits_len m los sts l q
 by_cases hk0:k=0
 . subst hk0
   refine Spec.eG [rows,im] func78 ntmps78 fun w0=>?_
   refine CW.go uw 9 rfl (LW.pn underlying159 ?_)
   refine LW.go uw 4 rfl (LW.leqT ?_)
   refine LW.go uw 11 rfl ?_
   refine NW.r1 ⟨_,⟨[],(show OwnS 72 2 (.slice none 0 0) (codS m los sts l q 0).length (hitsC (codS m los sts l q 0)) [] from OwnS.nil),rfl⟩,?_⟩
   simp only [List.nil_append];exact .s2
 . have hcs:codS m los sts l q k=bestOf k ((codBest m los sts l q k).map (rescored m l q)):=by unfold codS;rw [if_neg hk0];rfl
   have hbl:(codBest m los sts l q k).length<=2*min k l.length+4:=bestOf_len _ _
   refine Spec.eG [rows,im] func78 ntmps78 fun w0=>?_
   refine CW.go uw 9 rfl (LW.pn underlying159 ?_)
   refine LW.go uw 4 rfl (LW.leqF ?_)
   refine LW.go uw 15 rfl (LW.cG (cod_Ids W B p m los sts l rows im hf) cl148 ?_)
   rintro r1 _ ⟨ci,ho1,rfl⟩;subst hrows;refine LW.splitA (LW.splitB ?_)
   obtain⟨Ai,cpi,rfl,hAi,hci⟩:=ho1.val
   have hs1:=ho1.src (W:=W) (B:=B)
   refine LW.go uw 5 rfl ?_
   refine CW.loopG (fun st:Nat×Value×List Row=>[(20,iN st.1),(19,iN l.length),(18,.slice Ai l.length cpi),(7,st.2.1),(0,ptr p),(1,qv),(2,iN k)]) (fun st=>[st.2.2,[cr p 259 [.int .i64 m,.slice A1 los.length c1,.slice A2 los.length c2,mv]],chm,ci,im]) (fun st=>st.1<=l.length/\OwnS 72 2 st.2.1 st.1 (hitsC ((codHits m los sts l q).take st.1)) st.2.2) (fun st=>l.length-st.1) (0,.slice none 0 0,[]) (by exact⟨Nat.zero_le _,OwnS.nil⟩) rfl (by repeat' constructor) ?_
   rintro⟨i,v,ch⟩ ⟨hi,ho⟩;dsimp only at hi ho |-
   refine CW.go uw 2 rfl (LW.lss (decide ((i:Int)<(l.length:Int))) rfl rfl (rfl) rfl ?_)
   refine LW.go uw 3 rfl ?_
   refine CW.cond rfl (fun hc21=>?_) (fun hc21=>?_)
   . have hin:i<l.length:=oT hc21
     obtain⟨id,x,hid,hget⟩:=sI_at hin
     obtain⟨u,hu,vv,cv,rfl,hvv,hcv⟩:=hrel.some' hget
     have hxo:=(hok _ (aget_mem hget)).2
     obtain⟨a1,rfl⟩:∃ x,Ai=some x:=smA hAi
     have hsc:(codHits m los sts l q)[i]?=some (id,scoreL m q (backF los sts x.2)):=by rw [codHits,List.getElem?_map,hid,Option.map_some,hget];rfl
     have hbo:=backF_ok sts x.2 h8
     have hbl2:(backF los sts x.2).length=los.length:=by simp [backF]
     refine CW.go uw 6 rfl (LW.indexAt rfl rfl underlying85 ixs85 (by omega) (by omega) rfl ?_)
     refine LW.loadRd (v:=.int .i64 id) rfl (hs1.rd .t) (i64k_at hid) one3 rfl ?_
     refine LW.go uw 3 rfl (CW.drawH [cr p 259 [.int .i64 m,.slice A1 los.length c1,.slice A2 los.length c2,mv]] mixed ?_)
     refine AW.ts [0,1,2,3,4,5,6,7,8,9,10,11,12,13,14,15] 8 (TW.mv ?_)
     refine TW.mv ?_
     refine TW.mv ?_
     refine TW.np ?_
     refine TW.fa fa259_0 ?_
     refine TW.ld one3 ?_
     refine TW.mv ?_
     refine TW.mv ?_
     refine TW.np ?_
     refine TW.fa fa259_1 ?_
     refine TW.take rfl (Yl.loadAgg ([.slice A1 los.length c1,.slice A2 los.length c2]) rfl (by repeat (first | exact List.Mem.head _ | refine List.Mem.tail _ ?_)) (fun j v hj=>mid_get hj) underlying256 rfl (sze szt256)) rfl ?_
     refine TW.mv ?_
     refine TW.np ?_
     refine TW.fa fa259_2 ?_
     refine TW.ld one257 ?_
     refine TW.mv ?_
     refine TW.nil (AW.a 16 ?_)
     refine LW.mapHit1 (u:=_) rfl rfl keyInt (hom) .t underlying257 underlying3 zero262 (hu) rfl ?_
     refine LW.nil (AW.b (AW.ts [17] 6 (TW.take rfl (Yl.fieldV rfl (fun _=>fv262_1 _ _ _)) rfl ?_)))
     refine TW.nil (AW.a 18 ?_)
     refine LW.cG (quant_Back W B A1 A2 c1 c2 los sts x.2 cv im hb.len hxo.2.1 hl1 hl2 hcv hb.lo hb.st hxo.2.2 (by omega)) cl149 ?_
     rintro _ _ ⟨b42,rfl,rfl⟩;refine LW.splitA ?_
     refine LW.nil (AW.b (AW.a 19 ?_))
     refine LW.eT (metric_Score W B m ([cr b42 21 ((backF los sts x.2).map i32v)]++im) qv (.slice (sA b42) los.length los.length) q (backF los sts x.2) hqv.right (VecAt.left (OwnS.vec (by rw [hbl2];exact OwnS.row (by simp [hbl2])))) (by have:=hq.1;omega) hq.2 hbo.2) cl140 .n2 ?_
     refine LW.splitA ?_
     refine LW.nil (AW.b (AW.ts [20] 3 (TW.take rfl (Yl.build (vs:=[_,_]) (#[.int .i64 id,.int .i64 (scoreL m q (backF los sts x.2))]) ⟨rfl,rfl,trivial⟩ (by kernel_rfl)) rfl ?_)))
     refine TW.nil (AW.a 21 ?_)
     refine LW.buildSliceA [hitC (id,scoreL m q (backF los sts x.2))] ⟨rfl,trivial⟩ rfl (by intro v hv;simp at hv;subst hv;rfl) (by decide) underlying37 info72 rfl (by decide) (by decide) rfl ?_
     intro bs45
     refine LW.nil (AW.b (AW.a 22 ?_))
     refine LW.append (hitC (id,scoreL m q (backF los sts x.2))) rfl rfl underlying37 underlying37 (.inr ⟨_,rfl⟩) info72 rfl (ho) .t (fun _=>lenOf_slice _ _ _ _) (first_rd (RdAt.row .t (fun j v hj=>by simpa using hj)) rfl (fun h=>by cases h)) (rfl) (hitC_one _) (by omega) (by omega) rfl ?_
     intro v' ch' ho'
     refine LW.nil (AW.b (AW.ts [23] 0 (TW.as ?_)))
     refine TW.nil (AW.d ?_)
     refine NW.go uw 3 rfl (LW.ad ((i+1:Int)) ?_)
     exact LW.go uw 2 rfl (NW.mG ((i+1,v',ch')) (by exact⟨⟨by omega,by dsimp only;rw [List.take_add_one,hsc,hitsC_app];exact ho'⟩,by dsimp only;omega⟩))
   . have hin:i=l.length:=oF hc21
     rw [hin,List.take_of_length_le (by omega)] at ho
     refine CW.go uw 2 rfl (NW.then_exit (NW.go uw 3 rfl ?_))
     obtain⟨Ah,cph,hvh,_,_⟩:=ho.val
     subst hvh
     refine CW.go uw 4 rfl (LW.min2 (((min k l.length:Nat):Int)) rfl rfl (by split<;>omega) rfl ?_)
     refine LW.mul (((2*min k l.length:Nat):Int)) rfl rfl w4 rfl ?_
     refine LW.ad (((2*min k l.length+4:Nat):Int)) ?_
     refine LW.go uw 1 rfl (LW.cG (best_Of W B (2*min k l.length+4) (codHits m los sts l q) (.slice Ah l.length cph) ch (by have:=ho.sl (W:=W) (B:=B);rw [hhl];exact this) (by omega) (by omega)) cl141 ?_)
     rintro r _ ⟨cb,hob,rfl⟩;refine LW.splitA ?_
     have hob:OwnS 72 2 r (codBest m los sts l q k).length (hitsC (codBest m los sts l q k)) cb:=hob
     obtain⟨Ab,cpb,rfl,hAb,hcb⟩:=hob.val
     refine LW.go uw 12 rfl ?_
     refine CW.loopG (fun st:Nat×List Row=>[(58,iN st.1),(57,.int .i64 ((codBest m los sts l q k).length:Int)),(7,.slice Ab (codBest m los sts l q k).length cpb),(0,ptr p),(1,qv),(2,iN k)]) (fun st=>[st.2,[cr p 259 [.int .i64 m,.slice A1 los.length c1,.slice A2 los.length c2,mv]],chm,im]) (fun st=>st.1<=(codBest m los sts l q k).length/\OwnS 72 2 (.slice Ab (codBest m los sts l q k).length cpb) (codBest m los sts l q k).length (hitsC (((codBest m los sts l q k).take st.1).map (rescored m l q)++(codBest m los sts l q k).drop st.1)) st.2) (fun st=>(codBest m los sts l q k).length-st.1) (0,cb) (by exact⟨Nat.zero_le _,by simpa using hob⟩) rfl (by repeat' constructor) ?_
     rintro⟨i,ch2⟩ ⟨hi2,ho2⟩;dsimp only at hi2 ho2 |-
     refine CW.go uw 2 rfl (LW.lss (decide ((i:Int)<((codBest m los sts l q k).length:Int))) rfl rfl (rfl) rfl ?_)
     refine LW.go uw 3 rfl ?_
     refine CW.cond rfl (fun hc59=>?_) (fun hc59=>?_)
     . have hin59:i<(codBest m los sts l q k).length:=oT hc59
       rcases ho2 with ⟨hvn,h30,_,_⟩ | ⟨b7,cap7,slack7,hvn,hxl7,hcap7,hsl7,rfl⟩
       . exact absurd h30 (by omega)
       injection hvn with e1 e2 e3
       subst e1 e3
       obtain⟨h,hhi,hhd⟩:=drop_at hin59
       have hcur:(((codBest m los sts l q k).take i).map (rescored m l q)++(codBest m los sts l q k).drop i)[i]?=some h:=by rw [List.getElem?_append_right (by simp;omega),hhd];simp [Nat.min_eq_left (Nat.le_of_lt hin59)]
       obtain⟨vv,cv,hgv,hvv,hcv⟩:=CodMem.get hrel h.1
       have hvo:=hok.getD h.1
       refine CW.go uw 10 rfl (CW.drawT [cr p 259 [.int .i64 m,.slice A1 los.length c1,.slice A2 los.length c2,mv],cr b7 72 (hitsC (((codBest m los sts l q k).take i).map (rescored m l q)++(codBest m los sts l q k).drop i)++slack7)] 21 mixed ?_)
       refine AT.ts [(0,none),(1,none),(2,none),(3,none),(4,none),(5,some []),(6,none),(7,none),(8,none),(9,none),(10,some []),(11,none),(12,none),(13,none),(14,none),(15,some [])] 6 (TT.mv ?_)
       refine TT.mv ?_
       refine TT.mv ?_
       refine TT.np ?_
       refine TT.fa fa259_0 ?_
       refine TT.ld one3 ?_
       refine TT.mv ?_
       refine TT.mv ?_
       refine TT.np ?_
       refine TT.fa fa259_2 ?_
       refine TT.ld one257 ?_
       refine TT.mv ?_
       refine TT.mv ?_
       refine TT.take rfl (Yl.indexAddr (i*2) rfl rfl underlying37 ixs37 (by omega) (by omega) (by simp)) rfl ?_
       refine TT.fa fa72_0 ?_
       refine TT.takeH rfl (Yl.load (v:=.int .i64 h.1) rfl (by repeat (first | exact List.Mem.head _ | refine List.Mem.tail _ ?_)) (by rw [List.getElem?_append_left (by rw [hitsC_len];have:=(List.getElem?_eq_some_iff.1 hcur).1;omega)];have:=hitsC_at hcur 0 _ rfl;rwa [Int.toNat_natCast] at this) one3) rfl ?_
       refine TT.nil (AT.a 16 ?_)
       refine LW.mapLookG false ( (mget es h.1)) rfl rfl keyInt (hom) .t underlying257 underlying3 zero262 (rfl) rfl ?_
       try rw [hgv]
       refine LW.nil (AT.b (AT.ts [(17,none)] 4 (TT.take rfl (Yl.fieldV rfl (fun _=>fv262_0 _ _ _)) rfl ?_)))
       refine TT.nil (AT.a 18 ?_)
       refine LW.eG (metric_Score W B m im qv vv q _ hqv hvv (by have:=hq.1;omega) hq.2 hvo.2) cl140 ?_
       refine LW.nil (AT.b (AT.ts [(19,none),(20,none)] 1 (TT.take rfl (Yl.indexAddr (i*2) rfl rfl underlying37 ixs37 (by omega) (by omega) (by simp)) rfl ?_)))
       refine TT.fa fa72_1 ?_
       refine TT.nil (AT.a 21 ?_)
       refine LW.store rfl rfl .t (by have h9:=(List.getElem?_eq_some_iff.1 hcur).1;rw [List.length_append,hitsC_len];omega) sz2 (rfl) ?_
       refine LW.nil (AT.backK (by kernel_rfl) ?_)
       refine AT.done (by kernel_rfl) ?_
       refine NW.go uw 2 rfl ?_
       rw [hitsC_setS hcur,show (((codBest m los sts l q k).take i).map (rescored m l q)++(codBest m los sts l q k).drop i).set i (h.1,scoreL m q ((aget l h.1).getD ([],[])).1)=_ from resc_step (rescored m l q) hhi]
       refine CW.go uw 1 rfl (LW.ad ((i+1:Int)) ?_)
       exact LW.go uw 2 rfl (NW.mG ((i+1,[cr b7 72 (hitsC (((codBest m los sts l q k).take (i+1)).map (rescored m l q)++(codBest m los sts l q k).drop (i+1))++slack7)])) (by exact⟨⟨by omega,.inr ⟨b7,cpb,slack7,rfl,by rw [hitsC_len];simp;omega,hcap7,hsl7,rfl⟩⟩,by dsimp only;omega⟩))
     . have hin59:i=(codBest m los sts l q k).length:=oF hc59
       rw [hin59,List.take_length,List.drop_length,List.append_nil] at ho2
       refine CW.go uw 2 rfl (NW.then_exit (NW.go uw 6 rfl (LW.cG (best_Of W B k ((codBest m los sts l q k).map (rescored m l q)) (.slice Ab (codBest m los sts l q k).length cpb) ch2 (by have:=ho2.sl (W:=W) (B:=B);rw [List.length_map];exact this) (by rw [List.length_map];omega) (by omega)) cl141 ?_)))
       rintro r _ ⟨c2',ho3,rfl⟩;refine LW.splitA ?_
       refine LW.go uw 4 rfl ?_
       refine NW.ret1 rfl rfl ⟨_,⟨c2',by rw [hcs];exact ho3,rfl⟩,?_⟩
       simp only [List.append_assoc];exact .s4
end
end Go.Proofs.YtnlpccoigflheaaGreatDoor
