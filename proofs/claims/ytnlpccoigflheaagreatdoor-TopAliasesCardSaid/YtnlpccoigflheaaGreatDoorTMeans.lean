/- TKeys TFlat TMeans -/
import Derived.Test.YtnlpccoigflheaaGreatDoorTPure3
import Derived.Test.YtnlpccoigflheaaGreatDoorFac
namespace Go.Proofs.YtnlpccoigflheaaGreatDoor
open Go.RowKit Go.Shelf Go.Maps
open Go.Proofs.Tryz
def Tut:Tbl:=⟨[(72,0,0),(242,1,1)],[],[22,25,37,85]⟩
theorem ut:Tut.Ok Tryz.prog:=.of (⟨⟨_,Tryz.underlying22⟩,⟨_,Tryz.underlying25⟩,⟨_,Tryz.underlying37⟩,⟨_,Tryz.underlying85⟩,trivial⟩)
theorem enters_go {f:FuncId}(hc:Callee prog f):∀ args w,(callFunc f args).run prog w=.ok (.enter f args) w:=by
 obtain⟨fn,code,h1,h2,h3⟩:=hc
 intro args w
 have hn:¬ fn.name = "runtime.NumGoroutine" := by simpa using h3
 simp [callFunc,h1,h2,hn]
def IdOk (x:Int):Prop:=1<=x/\x<=1000
theorem IdOk.k64 {x:Int}(h:IdOk x):K64 x:=by
 unfold IdOk at h
 unfold K64
 have h1:IntKind.i64.min=-9223372036854775808:=rfl
 have h2:IntKind.i64.max=9223372036854775807:=rfl
 simp [Lit.wf,h1,h2];omega
theorem nodup_le:∀ (n:Nat) (l:List Nat),l.Nodup->(∀ x∈l,x<n)->l.length<=n
 | 0,l,_,h=>by
  cases l with
  | nil=>exact Nat.le_refl _
  | cons a r=>exact absurd (h a List.mem_cons_self) (Nat.not_lt_zero _)
 | n+1,l,hn,h=>by
  have h1:=nodup_le n (l.erase n) (hn.erase n) fun x hx=>by
   have:=hn.mem_erase_iff.1 hx
   have h2:=h x this.2
   omega
  rw [List.length_erase] at h1
  split at h1<;>omega
theorem ids_len {α:Type}{l:List (Int×α)}(hn:(l.map (·.1)).Nodup)(h:∀ x∈l,IdOk x.1):l.length<=1000:=by
 have h1:(l.map (fun x=>(x.1-1).toNat)).Nodup:=by
  rw [List.nodup_iff_pairwise_ne] at hn |-
  rw [List.pairwise_map] at hn |-
  refine List.Pairwise.imp_of_mem (fun {a b} ha hb hab he=>hab ?_) hn
  have ha:=h a ha
  have hb:=h b hb
  unfold IdOk at ha hb
  omega
 have:=nodup_le 1000 _ h1 fun y hy=>by
  obtain⟨x,hx,rfl⟩:=List.mem_map.1 hy
  have:=h x hx
  unfold IdOk at this
  omega
 simpa using this
section
variable (W:World)(B:Nat)
theorem keys_151 (v:Value)(h1:v.cells.toList=[v]):Spec prog W B 151 [v] [] (fun r post=>∃ bx,r=.func (.func 228) #[] #[ptr bx]/\post=[cr bx 151 [v]]):=by
 refine Spec.eG [] func151 ntmps151 fun w0=>?_
 refine CW.go ut 2 rfl (LW.bx ?_)
 intro bb1
 refine LW.go ut 5 rfl (LW.makeFn (vs:=[]) (us:=[ptr bb1]) trivial ⟨rfl,trivial⟩ rfl ?_)
 refine LW.go ut 4 rfl ?_
 refine NW.r1 ⟨_,⟨bb1,rfl,rfl⟩,?_⟩
 rw [show [cr bb1 151 [v]]=[cr bb1 151 v.cells.toList] by rw [h1]];exact (Sub.one .t)
theorem keys_211 (v:Value)(h1:v.cells.toList=[v]):Spec prog W B 211 [v] [] (fun r post=>∃ bx,r=.func (.func 266) #[] #[ptr bx]/\post=[cr bx 47 [v]]):=by
 refine Spec.eG [] func211 ntmps211 fun w0=>?_
 refine CW.go ut 2 rfl (LW.bx ?_)
 intro bb1
 refine LW.go ut 5 rfl (LW.makeFn (vs:=[]) (us:=[ptr bb1]) trivial ⟨rfl,trivial⟩ rfl ?_)
 refine LW.go ut 4 rfl ?_
 refine NW.r1 ⟨_,⟨bb1,rfl,rfl⟩,?_⟩
 rw [show [cr bb1 47 [v]]=[cr bb1 47 v.cells.toList] by rw [h1]];exact (Sub.one .t)
theorem keys_218 (v:Value)(h1:v.cells.toList=[v]):Spec prog W B 218 [v] [] (fun r post=>∃ bx,r=.func (.func 273) #[] #[ptr bx]/\post=[cr bx 245 [v]]):=by
 refine Spec.eG [] func218 ntmps218 fun w0=>?_
 refine CW.go ut 2 rfl (LW.bx ?_)
 intro bb1
 refine LW.go ut 5 rfl (LW.makeFn (vs:=[]) (us:=[ptr bb1]) trivial ⟨rfl,trivial⟩ rfl ?_)
 refine LW.go ut 4 rfl ?_
 refine NW.r1 ⟨_,⟨bb1,rfl,rfl⟩,?_⟩
 rw [show [cr bb1 245 [v]]=[cr bb1 245 v.cells.toList] by rw [h1]];exact (Sub.one .t)
theorem keys_224 (v:Value)(h1:v.cells.toList=[v]):Spec prog W B 224 [v] [] (fun r post=>∃ bx,r=.func (.func 275) #[] #[ptr bx]/\post=[cr bx 257 [v]]):=by
 refine Spec.eG [] func224 ntmps224 fun w0=>?_
 refine CW.go ut 2 rfl (LW.bx ?_)
 intro bb1
 refine LW.go ut 5 rfl (LW.makeFn (vs:=[]) (us:=[ptr bb1]) trivial ⟨rfl,trivial⟩ rfl ?_)
 refine LW.go ut 4 rfl ?_
 refine NW.r1 ⟨_,⟨bb1,rfl,rfl⟩,?_⟩
 rw [show [cr bb1 257 [v]]=[cr bb1 257 v.cells.toList] by rw [h1]];exact (Sub.one .t)
theorem keys_274 (v:Value)(h1:v.cells.toList=[v]):Spec prog W B 274 [v] [] (fun r post=>∃ bx,r=.func (.func 324) #[] #[ptr bx]/\post=[cr bx 282 [v]]):=by
 refine Spec.eG [] func274 ntmps274 fun w0=>?_
 refine CW.go ut 2 rfl (LW.bx ?_)
 intro bb1
 refine LW.go ut 5 rfl (LW.makeFn (vs:=[]) (us:=[ptr bb1]) trivial ⟨rfl,trivial⟩ rfl ?_)
 refine LW.go ut 4 rfl ?_
 refine NW.r1 ⟨_,⟨bb1,rfl,rfl⟩,?_⟩
 rw [show [cr bb1 282 [v]]=[cr bb1 282 v.cells.toList] by rw [h1]];exact (Sub.one .t)
theorem keys_207 (v:Value)(h1:v.cells.toList=[v]):Spec prog W B 207 [v] [] (fun r post=>∃ bx,r=.func (.func 265) #[] #[ptr bx]/\post=[cr bx 111 [v]]):=by
 refine Spec.eG [] func207 ntmps207 fun w0=>?_
 refine CW.go ut 2 rfl (LW.bx ?_)
 intro bb1
 refine LW.go ut 5 rfl (LW.makeFn (vs:=[]) (us:=[ptr bb1]) trivial ⟨rfl,trivial⟩ rfl ?_)
 refine LW.go ut 4 rfl ?_
 refine NW.r1 ⟨_,⟨bb1,rfl,rfl⟩,?_⟩
 rw [show [cr bb1 111 [v]]=[cr bb1 111 v.cells.toList] by rw [h1]];exact (Sub.one .t)
theorem map_cells {κ:Type}{enc:κ->Value}{v:Value}{l:List (κ×Value)}{ch:List Row}(o:OwnMap enc v l ch):v.cells.toList=[v]:=by
 obtain⟨b,es,clock,rfl,_⟩:=o
 rfl
theorem sk_151 {α:Type}{Rel:Value->α->Prop}(bx tm:Nat)(v:Value)(l:List (Int×α))(ch:List Row)(ho:MapR i64k Rel v l ch)(hw:∀ x∈l,IdOk x.1) :
  Spec prog W B 150 [.func (.func 228) #[] #[ptr bx]] ([cr bx tm [v]]++ch) (fun r post=>∃ c2,OwnS 3 1 r l.length ((sI (l.map (·.1))).map i64k) c2/\post=c2++([cr bx tm [v]]++ch)):=by
 have hn:=ho.nodup keyInt
 have hll:=ids_len hn hw
 obtain⟨es,hom,hrel⟩:=ho
 have hk:=hrel.keys
 have h:=sorted_keysI W B layKeysItem (enters_go cl228) bx tm v es ch hom (fun x hx=>by
  have:x.1∈l.map (·.1):=by rw [<- hk];exact List.mem_map.2 ⟨x,hx,rfl⟩
  obtain⟨y,hy,hyx⟩:=List.mem_map.1 this
  rw [<- hyx];exact (hw y hy).k64) (by rw [hrel.length];omega)
 rw [hk,hrel.length,srt_sI] at h
 exact h
theorem sk_211 {α:Type}{Rel:Value->α->Prop}(bx tm:Nat)(v:Value)(l:List (Int×α))(ch:List Row)(ho:MapR i64k Rel v l ch)(hw:∀ x∈l,IdOk x.1) :
  Spec prog W B 150 [.func (.func 266) #[] #[ptr bx]] ([cr bx tm [v]]++ch) (fun r post=>∃ c2,OwnS 3 1 r l.length ((sI (l.map (·.1))).map i64k) c2/\post=c2++([cr bx tm [v]]++ch)):=by
 have hn:=ho.nodup keyInt
 have hll:=ids_len hn hw
 obtain⟨es,hom,hrel⟩:=ho
 have hk:=hrel.keys
 have h:=sorted_keysI W B layKeysVec (enters_go cl266) bx tm v es ch hom (fun x hx=>by
  have:x.1∈l.map (·.1):=by rw [<- hk];exact List.mem_map.2 ⟨x,hx,rfl⟩
  obtain⟨y,hy,hyx⟩:=List.mem_map.1 this
  rw [<- hyx];exact (hw y hy).k64) (by rw [hrel.length];omega)
 rw [hk,hrel.length,srt_sI] at h
 exact h
theorem sk_218 {α:Type}{Rel:Value->α->Prop}(bx tm:Nat)(v:Value)(l:List (Int×α))(ch:List Row)(ho:MapR i64k Rel v l ch)(hw:∀ x∈l,IdOk x.1) :
  Spec prog W B 150 [.func (.func 273) #[] #[ptr bx]] ([cr bx tm [v]]++ch) (fun r post=>∃ c2,OwnS 3 1 r l.length ((sI (l.map (·.1))).map i64k) c2/\post=c2++([cr bx tm [v]]++ch)):=by
 have hn:=ho.nodup keyInt
 have hll:=ids_len hn hw
 obtain⟨es,hom,hrel⟩:=ho
 have hk:=hrel.keys
 have h:=sorted_keysI W B layKeysIvf (enters_go cl273) bx tm v es ch hom (fun x hx=>by
  have:x.1∈l.map (·.1):=by rw [<- hk];exact List.mem_map.2 ⟨x,hx,rfl⟩
  obtain⟨y,hy,hyx⟩:=List.mem_map.1 this
  rw [<- hyx];exact (hw y hy).k64) (by rw [hrel.length];omega)
 rw [hk,hrel.length,srt_sI] at h
 exact h
theorem sk_224 {α:Type}{Rel:Value->α->Prop}(bx tm:Nat)(v:Value)(l:List (Int×α))(ch:List Row)(ho:MapR i64k Rel v l ch)(hw:∀ x∈l,IdOk x.1) :
  Spec prog W B 150 [.func (.func 275) #[] #[ptr bx]] ([cr bx tm [v]]++ch) (fun r post=>∃ c2,OwnS 3 1 r l.length ((sI (l.map (·.1))).map i64k) c2/\post=c2++([cr bx tm [v]]++ch)):=by
 have hn:=ho.nodup keyInt
 have hll:=ids_len hn hw
 obtain⟨es,hom,hrel⟩:=ho
 have hk:=hrel.keys
 have h:=sorted_keysI W B layKeysCoded (enters_go cl275) bx tm v es ch hom (fun x hx=>by
  have:x.1∈l.map (·.1):=by rw [<- hk];exact List.mem_map.2 ⟨x,hx,rfl⟩
  obtain⟨y,hy,hyx⟩:=List.mem_map.1 this
  rw [<- hyx];exact (hw y hy).k64) (by rw [hrel.length];omega)
 rw [hk,hrel.length,srt_sI] at h
 exact h
theorem sk_274 {α:Type}{Rel:Value->α->Prop}(bx tm:Nat)(v:Value)(l:List (Int×α))(ch:List Row)(ho:MapR i64k Rel v l ch)(hw:∀ x∈l,IdOk x.1) :
  Spec prog W B 150 [.func (.func 324) #[] #[ptr bx]] ([cr bx tm [v]]++ch) (fun r post=>∃ c2,OwnS 3 1 r l.length ((sI (l.map (·.1))).map i64k) c2/\post=c2++([cr bx tm [v]]++ch)):=by
 have hn:=ho.nodup keyInt
 have hll:=ids_len hn hw
 obtain⟨es,hom,hrel⟩:=ho
 have hk:=hrel.keys
 have h:=sorted_keysI W B layKeysNode (enters_go cl324) bx tm v es ch hom (fun x hx=>by
  have:x.1∈l.map (·.1):=by rw [<- hk];exact List.mem_map.2 ⟨x,hx,rfl⟩
  obtain⟨y,hy,hyx⟩:=List.mem_map.1 this
  rw [<- hyx];exact (hw y hy).k64) (by rw [hrel.length];omega)
 rw [hk,hrel.length,srt_sI] at h
 exact h
end
open Go.RowKit
def VOk (xs:List Int):Prop:=xs.length<=8/\∀ x∈xs,InB x
def VecsOk (l:List (Int×List Int)):Prop:=∀ x∈l,IdOk x.1/\VOk x.2
def MetOk (m:Int):Prop:=m=1\/m=2
theorem VecAt.left {W:World}{B:Nat}{r r':List Row}{v:Value}{xs:List Int}(h:VecAt W B r v xs):VecAt W B (r++r') v xs:=SlAt.more h fun _ hx=>List.mem_append_left _ hx
theorem VecAt.right {W:World}{B:Nat}{r r':List Row}{v:Value}{xs:List Int}(h:VecAt W B r v xs):VecAt W B (r'++r) v xs:=SlAt.more h fun _ hx=>List.mem_append_right _ hx
theorem OwnS.vec {W:World}{B:Nat}{v:Value}{xs:List Int}{ch:List Row}(o:OwnS 21 1 v xs.length (xs.map i32v) ch):VecAt W B ch v xs:=o.sl
theorem VecAt.none {W:World}{B:Nat}{r:List Row}:VecAt W B r (.slice none 0 0) []:=SlAt.nil
theorem VecsOk.set {l:List (Int×List Int)}(h:VecsOk l){id:Int}{v:List Int}(hi:IdOk id)(hv:VOk v):VecsOk (aset l id v):=fun x hx=>by
 rcases aset_keys_mem hx with rfl | hx
 . exact⟨hi,hv⟩
 . exact h x hx
theorem VecsOk.get {l:List (Int×List Int)}(h:VecsOk l){id:Int}{v:List Int}(ha:aget l id=some v):VOk v:=(h _ (aget_mem ha)).2
theorem sI_at {α:Type}{l:List (Int×α)}{i:Nat}(h:i<l.length):∃ id x,(sI (l.map (·.1)))[i]?=some id/\aget l id=some x:=by
 have hp:=sI_perm (l.map (·.1))
 have hl:(sI (l.map (·.1))).length=l.length:=by rw [hp.length_eq,List.length_map]
 obtain⟨id,h1,_⟩:=drop_at (xs:=sI (l.map (·.1))) (i:=i) (by omega)
 obtain⟨x,hx⟩:=aget_some (l:=l) (k:=id) (hp.mem_iff.1 (List.mem_of_getElem? h1))
 exact⟨id,x,h1,hx⟩
theorem sI_len {α:Type}(l:List (Int×α)):(sI (l.map (·.1))).length=l.length:=by rw [(sI_perm _).length_eq,List.length_map]
theorem i64k_at {l:List Int}{i:Nat}{x:Int}(h:l[i]?=some x):(l.map i64k)[((i:Nat):Int).toNat*1]?=some (.int .i64 x):=by
 rw [Int.toNat_natCast,Nat.mul_one,List.getElem?_map,h];rfl
def FlatR (W:World)(B:Nat)(im:List Row)(p:Nat)(m:Int)(l:List (Int×List Int))(rows:List Row):Prop:=
 ∃ mv chm,MapR i64k (VecAt W B im) mv l chm/\rows=[cr p 242 [.int .i64 m,mv]]++chm/\VecsOk l
theorem FlatR.more {W:World}{B:Nat}{im im':List Row}{p:Nat}{m:Int}{l:List (Int×List Int)}{rows:List Row}(h:FlatR W B im p m l rows)(hx:∀ x∈im,x∈im'):FlatR W B im' p m l rows:=by
 obtain⟨mv,chm,h1,h2,h3⟩:=h
 exact⟨mv,chm,h1.mono fun u x k=>SlAt.more k hx,h2,h3⟩
theorem FlatR.len {W:World}{B:Nat}{im:List Row}{p:Nat}{m:Int}{l:List (Int×List Int)}{rows:List Row}(h:FlatR W B im p m l rows):l.length<=1000:=by
 obtain⟨mv,chm,h1,h2,h3⟩:=h
 exact ids_len (h1.nodup keyInt) fun x hx=>(h3 x hx).1
section
variable (W:World)(B:Nat)
theorem flat_New (m:Int)(hm:MetOk m):Spec prog W B 162 [.int .i64 m] [] (fun r post=>∃ p,r=ptr p/\∀ im,FlatR W B im p m [] post):=by
 have hk:(decide (m=1) || decide (m=2))=true:=by rcases hm with rfl | rfl<;>rfl
 refine Spec.eG [] func162 ntmps162 fun w0=>?_
 refine CW.go ut 9 rfl (LW.eT (metric_Known W B m) cl153 ((Take.none _)) ?_)
 rw [hk]
 refine LW.go ut 9 rfl (LW.mapMakeG i64k rfl ?_)
 intro mv chm hom;obtain⟨bm,hbm⟩:=hom.shape;subst hbm
 refine LW.bd [_,_] (#[.int .i64 m,.map (some bm)]) ?_
 refine LW.bx ?_
 intro bb9
 refine LW.go ut 4 rfl ?_
 refine NW.ret1 rfl rfl ⟨_,⟨bb9,rfl,fun im=>⟨_,chm,⟨[],hom,RelM.nil⟩,rfl,fun x hx=>by cases hx⟩⟩,?_⟩
 exact .s2
theorem flat_Put (p:Nat)(m:Int)(l:List (Int×List Int))(rows im:List Row)(id:Int)(v:Value)(xs:List Int)(hf:FlatR W B im p m l rows)(hv:VecAt W B im v xs)(hx:VOk xs)(hid:IdOk id) :
  Spec prog W B 96 [ptr p,.int .i64 id,v] (rows++im) (fun r post=>r=.tuple #[]/\∃ rows' ch,FlatR W B (ch++im) p m (aset l id xs) rows'/\post=rows'++(ch++im)):=by
 obtain⟨mv,chm,⟨es,hom,hrel⟩,rfl,hok⟩:=hf
 refine Spec.eG [[cr p 242 [.int .i64 m,mv]],chm,im] func96 ntmps96 fun w0=>?_
 refine CW.go ut 3 rfl (LW.ptrNotNil _ rfl underlying156 rfl rfl ?_)
 refine LW.go ut 3 rfl (CW.drawH [cr p 242 [.int .i64 m,mv]] mixed ?_)
 refine AW.ts [0,1,2,3,4,5] 2 (TW.mv ?_)
 refine TW.np ?_
 refine TW.fa fa242_1 ?_
 refine TW.ld one47 ?_
 refine TW.mv ?_
 refine TW.mv ?_
 refine TW.nil (AW.a 6 ?_)
 refine LW.cG (vect_Copy W B im v xs hv (by have:=hx.1;omega)) cl136 ?_
 rintro r _ ⟨ch,ho,rfl⟩;refine LW.splitA ?_
 refine LW.nil (AW.b (AW.a 7 ?_))
 refine LW.mapSetG rfl rfl rfl keyInt (hom) .t underlying47 underlying3 ?_
 intro chm' hom'
 refine LW.nil (AW.b (AW.d ?_))
 refine NW.end0 rfl  ⟨_,⟨rfl,[cr p 242 [.int .i64 m,mv]]++chm',ch,⟨mv,chm',⟨_,hom',RelM.set ho.vec.left (hrel.mono fun u x k=>VecAt.right k)⟩,rfl,hok.set hid hx⟩,rfl⟩,?_⟩
 simp only [List.append_assoc];exact .s4
theorem flat_Ids (p:Nat)(m:Int)(l:List (Int×List Int))(rows im:List Row)(hf:FlatR W B im p m l rows) :
  Spec prog W B 139 [ptr p] rows (fun r post=>∃ ch,OwnS 3 1 r l.length ((sI (l.map (·.1))).map i64k) ch/\post=ch++rows):=by
 obtain⟨mv,chm,hmr,rfl,hok⟩:=hf
 refine Spec.eG [[cr p 242 [.int .i64 m,mv]],chm] func139 ntmps139 fun w0=>?_
 refine CW.go ut 9 rfl (LW.pn underlying156 ?_)
 refine LW.go ut 10 rfl (LW.ld one47 ?_)
 refine LW.cT (keys_211 W B mv (by obtain⟨es,h,_⟩:=hmr;exact map_cells h)) cl211 ((Take.none _)) ?_
 rintro _ _ ⟨bx,rfl,rfl⟩
 refine LW.cT (sk_211 W B bx _ mv l chm hmr (fun x hx=>(hok x hx).1)) cl150 .n2 ?_
 rintro r _ ⟨c2,ho,rfl⟩;refine LW.splitA (LW.splitB ?_)
 refine LW.go ut 4 rfl ?_
 refine NW.r1 ⟨_,⟨c2,ho,rfl⟩,?_⟩
 exact .s3
theorem flat_Search (p:Nat)(m:Int)(l:List (Int×List Int))(rows im:List Row)(qv:Value)(q:List Int)(k:Nat)(hf:FlatR W B im p m l rows)(hqv:VecAt W B im qv q)(hq:VOk q)(hk:k<=100000) :
   Spec prog W B 75 [ptr p,qv,iN k] (rows++im) (fun r post=>∃ ch,OwnS 72 2 r (flatS m l q k).length (hitsC (flatS m l q k)) ch/\post=ch++(rows++im)):=by
 have hll:=hf.len
 have hf':=hf
 obtain⟨mv,chm,⟨es,hom,hrel⟩,hrows,hok⟩:=hf'
 have hsl:(scored m q l).length=l.length:=by rw [scored,List.length_map,sI_len]
 refine Spec.eG [rows,im] func75 ntmps75 fun w0=>?_
 refine CW.go ut 14 rfl (LW.cG (flat_Ids W B p m l rows im hf) cl139 ?_)
 rintro r1 _ ⟨c1,ho1,rfl⟩;subst hrows;refine LW.splitA (LW.splitB ?_)
 obtain⟨A1,cp1,rfl,hA1,hc1⟩:=ho1.val
 have hs1:=ho1.src (W:=W) (B:=B)
 refine LW.go ut 5 rfl ?_
 refine CW.loopG (fun st:Nat×Value×List Row=>[(13,iN st.1),(12,iN l.length),(11,.slice A1 l.length cp1),(7,st.2.1),(0,ptr p),(1,qv),(2,iN k)]) (fun st=>[st.2.2,[cr p 242 [.int .i64 m,mv]],chm,c1,im]) (fun st=>st.1<=l.length/\OwnS 72 2 st.2.1 st.1 (hitsC ((scored m q l).take st.1)) st.2.2) (fun st=>l.length-st.1) (0,.slice none 0 0,[]) (by exact⟨Nat.zero_le _,OwnS.nil⟩) rfl (by repeat' constructor) ?_
 rintro⟨i,v,ch⟩ ⟨hi,ho⟩;dsimp only at hi ho |-
 refine CW.go ut 2 rfl (LW.lss (decide ((i:Int)<(l.length:Int))) rfl rfl (rfl) rfl ?_)
 refine LW.go ut 3 rfl ?_
 refine CW.cond rfl (fun hc14=>?_) (fun hc14=>?_)
 . have hin:i<l.length:=oT hc14
   obtain⟨id,vec,hid,hget⟩:=sI_at hin
   obtain⟨u,hu,hvu⟩:=hrel.some' hget
   have hvo:=hok.get hget
   obtain⟨a1,rfl⟩:∃ x,A1=some x:=smA hA1
   have hsc:(scored m q l)[i]?=some (id,scoreL m q vec):=by rw [scored,List.getElem?_map,hid,Option.map_some,hget];rfl
   refine CW.go ut 6 rfl (LW.indexAt rfl rfl underlying85 ixs85 (by omega) (by omega) rfl ?_)
   refine LW.loadRd (v:=.int .i64 id) rfl (hs1.rd .t) (i64k_at hid) one3 rfl ?_
   refine LW.go ut 3 rfl (CW.drawH [cr p 242 [.int .i64 m,mv]] mixed ?_)
   refine AW.ts [0,1,2,3,4,5,6,7,8,9,10,11] 6 (TW.mv ?_)
   refine TW.mv ?_
   refine TW.mv ?_
   refine TW.np ?_
   refine TW.fa fa242_0 ?_
   refine TW.ld one3 ?_
   refine TW.mv ?_
   refine TW.mv ?_
   refine TW.np ?_
   refine TW.fa fa242_1 ?_
   refine TW.ld one47 ?_
   refine TW.mv ?_
   refine TW.nil (AW.a 12 ?_)
   refine LW.mapHit1 (u:=u) rfl rfl keyInt (hom) .t underlying47 underlying3 zero25 (hu) rfl ?_
   refine LW.nil (AW.b (AW.a 13 ?_))
   refine LW.eG (metric_Score W B m im qv u q vec hqv hvu (by have:=hq.1;omega) hq.2 hvo.2) cl140 ?_
   refine LW.nil (AW.b (AW.ts [14] 3 (TW.take rfl (Yl.build (vs:=[_,_]) (#[.int .i64 id,.int .i64 (scoreL m q vec)]) ⟨rfl,rfl,trivial⟩ (by kernel_rfl)) rfl ?_)))
   refine TW.nil (AW.a 15 ?_)
   refine LW.buildSliceA [hitC (id,scoreL m q vec)] ⟨rfl,trivial⟩ rfl (by intro v hv;simp at hv;subst hv;rfl) (by decide) underlying37 info72 rfl (by decide) (by decide) rfl ?_
   intro bs32
   refine LW.nil (AW.b (AW.a 16 ?_))
   refine LW.append (hitC (id,scoreL m q vec)) rfl rfl underlying37 underlying37 (.inr ⟨_,rfl⟩) info72 rfl (ho) .t (fun _=>lenOf_slice _ _ _ _) (first_rd (RdAt.row .t (fun j v hj=>by simpa using hj)) rfl (fun h=>by cases h)) (rfl) (hitC_one _) (by omega) (by omega) rfl ?_
   intro v' ch' ho'
   refine LW.nil (AW.b (AW.ts [17] 0 (TW.as ?_)))
   refine TW.nil (AW.d ?_)
   refine NW.go ut 3 rfl (LW.ad ((i+1:Int)) ?_)
   exact LW.go ut 2 rfl (NW.mG ((i+1,v',ch')) (by exact⟨⟨by omega,by dsimp only;rw [List.take_add_one,hsc,hitsC_app];exact ho'⟩,by dsimp only;omega⟩))
 . have hin:i=l.length:=oF hc14
   rw [hin,List.take_of_length_le (by omega)] at ho
   refine CW.go ut 2 rfl (NW.then_exit (NW.go ut 6 rfl (LW.cG (best_Of W B k (scored m q l) v ch (by have:=ho.sl (W:=W) (B:=B);rw [hsl];exact this) (by omega) hk) cl141 ?_)))
   rintro r _ ⟨c2,ho2,rfl⟩;refine LW.splitA ?_
   refine LW.go ut 4 rfl ?_
   refine NW.r1 ⟨_,⟨c2,ho2,rfl⟩,?_⟩
   simp only [List.append_assoc];exact .s4
end
open Go.RowKit
def VecsIn (vs:List (List Int)):Prop:=∀ v∈vs,VOk v
theorem VecsAt.more {W:World}{B:Nat}{r r':List Row}{v:Value}{vs:List (Value×List Int)}(h:VecsAt W B r v vs)(hx:∀ x∈r,x∈r'):VecsAt W B r' v vs:=⟨h.1.more hx,fun x hm=>SlAt.more (h.2 x hm) hx⟩
theorem mapIdx_get {α β:Type}(f:Nat->α->β)(l:List α)(i:Nat):(l.mapIdx f)[i]?=(l[i]?).map (f i):=by simp
theorem hitsC_set {l:List (Int×Int)}{i n:Nat}{x:Int×Int}(hx:l[i]?=some x)(hn:n=l.length)(z:Value) :
  (hitsC (l.take i)++List.replicate ((n-i)*2) z).take (i*2)++hitC x++(hitsC (l.take i)++List.replicate ((n-i)*2) z).drop (i*2+2)=hitsC (l.take (i+1))++List.replicate ((n-(i+1))*2) z:=by
 have hi:=(List.getElem?_eq_some_iff.1 hx).1
 have h1:(hitsC (l.take i)).length=i*2:=by rw [hitsC_len,List.length_take];omega
 rw [List.take_append_of_le_length (by omega),List.take_of_length_le (by omega),List.drop_append,List.drop_eq_nil_of_le (by omega),h1,List.nil_append,List.drop_replicate,List.take_add_one,hx,hitsC_app]
 have e1:(n-i)*2-(i*2+2-i*2)=(n-(i+1))*2:=by omega
 have e2:hitsC (some x).toList=hitC x:=by simp [hitsC]
 rw [e1,e2]
theorem ordHits_at {ms:List (Value×List Int)}{q:List Int}{i:Nat}{x:Value×List Int}(h:ms[i]?=some x):(ordHits (ms.map (·.2)) q)[i]?=some ((i:Int),scoreL 1 x.2 q):=by
 simp [ordHits,h]
theorem ordHits_len (ms:List (List Int))(q:List Int):(ordHits ms q).length=ms.length:=by simp [ordHits]
theorem sH_len (l:List (Int×Int)):(sH l).length=l.length:=(sH_perm l).length_eq
theorem ordP_len (ms:List (List Int))(q:List Int):(ordP ms q).length=ms.length:=by rw [ordP,List.length_map,sH_len,ordHits_len]
theorem ordP_mem {ms:List (List Int)}{q:List Int}{x:Int}(h:x∈ordP ms q):0<=x/\x<(ms.length:Int):=by
 unfold ordP at h
 obtain⟨y,hy,rfl⟩:=List.mem_map.1 h
 have h2:=(sH_perm _).mem_iff.1 hy
 unfold ordHits at h2
 obtain⟨i,hi,he⟩:=List.mem_mapIdx.1 h2
 rw [<- he]
 simp;omega
theorem nearP_in (ms:List (List Int))(q:List Int)(h:ms≠[]):0<=nearP ms q/\nearP ms q<(ms.length:Int):=by
 have hl:=ordP_len ms q
 unfold nearP
 cases ho:ordP ms q with
 | nil=>rw [ho] at hl;exact absurd (List.eq_nil_of_length_eq_zero hl.symm) h
 | cons x r=>exact ordP_mem (q:=q) (by rw [ho];exact List.mem_cons_self)
theorem sumAt_snoc (i:Nat)(l:List (List Int))(v:List Int):sumAt i (l++[v])=sumAt i l+v.getD i 0:=by simp [sumAt,List.foldl_append]
theorem sumAt_in (i:Nat):∀ (l:List (List Int)),VecsIn l->-(1048576*(l.length:Int))<=sumAt i l/\sumAt i l<=1048576*(l.length:Int):=by
 intro l
 suffices h:∀ (l:List (List Int)) (s c:Int),VecsIn l->-c<=s->s<=c->-(c+1048576*(l.length:Int))<=l.foldl (fun s v=>s+v.getD i 0) s/\l.foldl (fun s v=>s+v.getD i 0) s<=c+1048576*(l.length:Int) by
  intro hl
  have:=h l 0 0 hl (by omega) (by omega)
  unfold sumAt
  omega
 intro l
 induction l with
 | nil=>intro s c _ h1 h2;simp;omega
 | cons v r ih=>
  intro s c hl h1 h2
  have hv:=getD_in (hl v List.mem_cons_self).2 i
  unfold InB at hv
  have:=ih (s+v.getD i 0) (c+1048576) (fun u hu=>hl u (List.mem_cons_of_mem _ hu)) (by omega) (by omega)
  simp only [List.foldl_cons,List.length_cons]
  omega
theorem div_in {a b M:Int}(hb:0<b)(h1:-(M*b)<=a)(h2:a<=M*b):-M<=a/b/\a/b<=M:=by
 refine⟨(Int.le_ediv_iff_mul_le hb).2 (by rw [Int.neg_mul];exact h1),?_⟩
 have h3:=Int.ediv_le_ediv hb h2
 rwa [Int.mul_ediv_cancel _ (by omega)] at h3
theorem mid_in (i:Nat){vs:List (List Int)}(h:VecsIn vs)(h0:vs≠[]):InB (sumAt i vs/(vs.length:Int)):=by
 have hl:0<(vs.length:Int):=by have:=List.length_pos_iff.2 h0;omega
 obtain⟨h1,h2⟩:=sumAt_in i vs h
 exact div_in hl h1 h2
theorem midP_ok {m:List Int}{vs:List (List Int)}(hm:VOk m)(h:VecsIn vs):VOk (midP m vs):=by
 unfold midP
 split
 . exact hm
 . rename_i h0
   refine⟨by simp;exact hm.1,fun x hx=>?_⟩
   obtain⟨i,_,rfl⟩:=List.mem_map.1 hx
   exact mid_in i h h0
section
variable (W:World)(B:Nat)
theorem means_Order (rows:List Row)(v qv:Value)(ms:List (Value×List Int))(q:List Int)(hv:VecsAt W B rows v ms)(hqv:VecAt W B rows qv q)(hm:ms.length<=1000)(hok:VecsIn (ms.map (·.2)))(hq:VOk q) :
   Spec prog W B 142 [v,qv] rows (fun r post=>∃ ch,OwnS 3 1 r ms.length ((ordP (ms.map (·.2)) q).map i64k) ch/\post=ch++rows):=by
 obtain⟨⟨A,cp,rfl,hcp,hl,hsrc,hA⟩,hvv⟩:=hv
 have hz:∀ k,(madeCells (Value.agg #[.int .i64 0,.int .i64 0]).cells (k*2)).toList=List.replicate (k*2) (.int .i64 0):=fun k=>
   madeCells_rep _ _ _ (by intro x hx;simp [Value.cells] at hx;exact hx) (by simp [Value.cells])
 have hol:(ordHits (ms.map (·.2)) q).length=ms.length:=by rw [ordHits_len,List.length_map]
 have hpl:(srtH (ordHits (ms.map (·.2)) q)).length=ms.length:=by rw [srtH_sH,sH_len,hol]
 have hsort:=fun (b:Nat)=>sort_hits W B b ms.length (ordHits (ms.map (·.2)) q) (by omega)
 simp only [hol] at hsort
 refine Spec.eG [rows] func142 ntmps142 fun w0=>?_
 refine CW.go ut 9 rfl (LW.make (ms.length) (ms.length) (List.replicate (ms.length*2) (.int .i64 0)) rfl rfl (by first | rfl | omega) (by first | rfl | omega) underlying37 info72 (by omega) (by omega) (by omega) (hz _) rfl ?_)
 intro bm13
 refine LW.go ut 12 rfl ?_
 refine CW.loopG (fun i:Nat=>[(16,iN i),(15,iN ms.length),(14,.slice A ms.length cp),(5,.slice (sA bm13) ms.length ms.length),(1,qv)]) (fun i=>[[cr bm13 72 (hitsC ((ordHits (ms.map (·.2)) q).take i)++List.replicate ((ms.length-i)*2) (.int .i64 0))],rows]) (fun i=>i<=ms.length) (fun i=>ms.length-i) 0 (by exact Nat.zero_le _) rfl (by repeat' constructor) ?_
 rintro i hi
 refine CW.go ut 2 rfl (LW.lss (decide ((i:Int)<(ms.length:Int))) rfl rfl (rfl) rfl ?_)
 refine LW.go ut 3 rfl ?_
 refine CW.cond rfl (fun hc17=>?_) (fun hc17=>?_)
 . have hin:i<ms.length:=oT hc17
   obtain⟨x,hxi,hxd⟩:=drop_at hin
   obtain⟨a1,rfl⟩:∃ x,A=some x:=smA hA
   have hxm:=List.mem_of_getElem? hxi
   have hxo:=hok x.2 (List.mem_map.2 ⟨x,hxm,rfl⟩)
   have hg:(ms.map (·.1))[((i:Nat):Int).toNat*1]?=some x.1:=by rw [Int.toNat_natCast,Nat.mul_one,List.getElem?_map,hxi];rfl
   have hoi:=ordHits_at (q:=q) hxi
   refine CW.go ut 7 rfl (LW.indexAt rfl rfl underlying22 ixs22 (by omega) (by omega) rfl ?_)
   refine LW.loadRd (v:=x.1) rfl (hsrc.rd .t) (hg) one25 rfl ?_
   refine LW.go ut 10 rfl (LW.eG (metric_Score W B 1 rows x.1 qv x.2 q (hvv x hxm) hqv (by have:=hxo.1;omega) hxo.2 hq.2) cl140 ?_)
   refine LW.bd [_,_] (#[iN i,.int .i64 (scoreL 1 x.2 q)]) ?_
   refine LW.indexAddr (i*2) rfl rfl underlying37 ixs37 (by omega) (by omega) (by simp) rfl ?_
   refine LW.storeAgg (_) rfl rfl .t (sze szt72) (by simp [hitsC_len,hol];omega) (hitC_one ((i:Int),scoreL 1 x.2 q)) (hitsC_set hoi hol.symm _) ?_
   refine LW.go ut 4 rfl (LW.ad ((i+1:Int)) ?_)
   exact LW.go ut 2 rfl (NW.mG (i+1) (by exact⟨hin,by omega⟩))
 . have hin:i=ms.length:=oF hc17
   refine CW.go ut 2 rfl (NW.then_exit (NW.go ut 3 rfl ?_))
   rw [hin,List.take_of_length_le (by omega),Nat.sub_self,Nat.zero_mul,List.replicate_zero,List.append_nil]
   refine CW.go ut 2 rfl (LW.eG (hsort bm13) cl215 ?_)
   refine LW.go ut 16 rfl ?_
   refine CW.loopG (fun st:Nat×Value×List Row=>[(34,iN st.1),(33,iN ms.length),(32,.slice (sA bm13) ms.length ms.length),(8,st.2.1)]) (fun st=>[st.2.2,[cr bm13 72 (hitsC (srtH (ordHits (ms.map (·.2)) q)))],rows]) (fun st=>st.1<=ms.length/\OwnS 3 1 st.2.1 st.1 (((ordP (ms.map (·.2)) q).take st.1).map i64k) st.2.2) (fun st=>ms.length-st.1) (0,.slice none 0 0,[]) (by exact⟨Nat.zero_le _,OwnS.nil⟩) rfl (by repeat' constructor) ?_
   rintro⟨j,u,ch⟩ ⟨hj,ho⟩;dsimp only at hj ho |-
   refine CW.go ut 2 rfl (LW.lss (decide ((j:Int)<(ms.length:Int))) rfl rfl (rfl) rfl ?_)
   refine LW.go ut 3 rfl ?_
   refine CW.cond rfl (fun hc35=>?_) (fun hc35=>?_)
   . have hjn:j<ms.length:=oT hc35
     obtain⟨y,hyj,_⟩:=drop_at (show j<(srtH (ordHits (ms.map (·.2)) q)).length by omega)
     have hoj:(ordP (ms.map (·.2)) q)[j]?=some y.1:=by rw [ordP,<- srtH_sH,List.getElem?_map,hyj];rfl
     refine CW.go ut 6 rfl (LW.indexAddr (j*2) rfl rfl underlying37 ixs37 (by omega) (by omega) (by simp) rfl ?_)
     refine LW.loadAgg (hitC y) rfl .t (fun k v hk=>by have:=hitsC_at hyj k v hk;rwa [Int.toNat_natCast] at this) underlying72 rfl (sze szt72) rfl ?_
     refine LW.alloc zero72 rfl ?_
     intro ba10
     refine LW.sA (hitC y) szt72 (hitC_one y) ?_
     refine LW.go ut 5 rfl (LW.load (v:=.int .i64 y.1) rfl .t (rfl) one3 rfl ?_)
     refine LW.bs [_] underlying85 info3 ?_
     intro bs41
     refine LW.append ([.int .i64 y.1]) rfl rfl underlying85 underlying85 (.inr ⟨_,rfl⟩) info3 rfl (ho) .t (fun _=>lenOf_slice _ _ _ _) (first_rd (RdAt.row .t (fun j v hj=>by simpa using hj)) rfl (fun h=>by cases h)) (rfl) (by intro u hu;simp at hu;subst hu;rfl) (by omega) (by omega) rfl ?_
     intro v' ch' ho'
     refine LW.go ut 5 rfl (LW.ad ((j+1:Int)) ?_)
     exact LW.go ut 2 rfl (NW.mG ((j+1,v',ch')) (by exact⟨⟨by omega,by dsimp only;rw [List.take_add_one,hoj,List.map_append];exact ho'⟩,by dsimp only;omega⟩))
   . have hjn:j=ms.length:=oF hc35
     rw [hjn,List.take_of_length_le (by rw [ordP_len,List.length_map];exact Nat.le_refl _)] at ho
     refine CW.go ut 2 rfl (NW.then_exit (NW.go ut 9 rfl ?_))
     refine NW.ret1 rfl rfl ⟨_,⟨ch,by rw [<- hjn] at ho |-;exact ho,rfl⟩,?_⟩
     exact .s2
theorem means_Nearest (rows:List Row)(v qv:Value)(ms:List (Value×List Int))(q:List Int)(hv:VecsAt W B rows v ms)(hqv:VecAt W B rows qv q)(hm:ms.length<=1000)(hok:VecsIn (ms.map (·.2)))(hq:VOk q) :
   Spec prog W B 166 [v,qv] rows (fun r post=>r=.int .i64 (nearP (ms.map (·.2)) q)/\post=rows):=by
 have hv':=hv
 obtain⟨⟨A,cp,rfl,hcp,hl,hsrc,hA⟩,hvv⟩:=hv'
 by_cases h0:ms=[]
 . subst h0
   refine Spec.eG [rows] func166 ntmps166 fun w0=>?_
   refine CW.go ut 10 rfl (LW.eql true rfl rfl (rfl) rfl ?_)
   refine LW.go ut 10 rfl ?_
   refine NW.r1 ⟨_,⟨rfl,rfl⟩,?_⟩
   exact (Sub.one .t)
 . have hn:=nearP_in (ms.map (·.2)) q (by simpa using h0)
   have hml:=List.length_pos_iff.2 h0
   have hpl:=ordP_len (ms.map (·.2)) q
   rw [List.length_map] at hpl
   obtain⟨y,hy,_⟩:=drop_at (xs:=ordP (ms.map (·.2)) q) (i:=0) (by omega)
   have hny:nearP (ms.map (·.2)) q=y:=by unfold nearP;rw [List.headD_eq_head?_getD,List.head?_eq_getElem?,hy];rfl
   refine Spec.eG [rows] func166 ntmps166 fun w0=>?_
   refine CW.go ut 10 rfl (LW.eqlF ?_)
   refine LW.go ut 9 rfl (LW.cG (means_Order W B rows _ qv ms q hv hqv hm hok hq) cl142 ?_)
   rintro r _ ⟨ch,ho,rfl⟩;refine LW.splitA ?_
   obtain⟨A2,cp2,rfl,hA2,hc2⟩:=ho.val
   have hs2:=ho.src (W:=W) (B:=B)
   obtain⟨a2,rfl⟩:∃ x,A2=some x:=smA hA2
   refine LW.indexAt rfl rfl underlying85 ixs85 (by omega) (by omega) rfl ?_
   refine LW.loadRd (v:=.int .i64 y) rfl (hs2.rd .t) (by show (List.map i64k _)[0]?=_;rw [List.getElem?_map,hy];rfl) one3 rfl ?_
   refine LW.go ut 4 rfl ?_
   refine NW.ret1 rfl rfl ⟨_,⟨by rw [hny],rfl⟩,?_⟩
   exact (Sub.one .t)
theorem means_floor (a b:Int)(hb:0<b)(h1:-1000000000000<=a)(h2:a<=1000000000000)(hb2:b<=1000000000000):Spec prog W B 335 [.int .i64 a,.int .i64 b] [] (fun r post=>r=.int .i64 (a/b)/\post=[]):=by
 have hf:=floor_eq (a:=a) hb
 have hi:=tdiv_in hb h1 h2
 by_cases h:a.tmod b<0
 . rw [<- hf.1 h]
   refine Spec.eG [] func335 ntmps335 fun w0=>?_
   refine CW.go ut 9 rfl (LW.quo (a.tdiv b) rfl rfl (by omega) (by exact wr64 rfl (by omega) (by omega)) rfl ?_)
   refine LW.go ut 8 rfl (LW.rem (a.tmod b) rfl rfl (by omega) (rfl) rfl ?_)
   refine LW.lss true rfl rfl (decide_eq_true h) rfl ?_
   refine LW.go ut 5 rfl (LW.sub (a.tdiv b-1) rfl rfl w6 rfl ?_)
   refine LW.go ut 10 rfl ?_
   refine NW.r1 ⟨_,⟨rfl,rfl⟩,?_⟩
   exact Sub.nil _
 . rw [<- hf.2 h]
   refine Spec.eG [] func335 ntmps335 fun w0=>?_
   refine CW.go ut 9 rfl (LW.quo (a.tdiv b) rfl rfl (by omega) (by exact wr64 rfl (by omega) (by omega)) rfl ?_)
   refine LW.go ut 8 rfl (LW.rem (a.tmod b) rfl rfl (by omega) (rfl) rfl ?_)
   refine LW.lss false rfl rfl (decide_eq_false h) rfl ?_
   refine LW.go ut 12 rfl ?_
   refine NW.r1 ⟨_,⟨rfl,rfl⟩,?_⟩
   exact Sub.nil _
theorem means_middle (rows:List Row)(mv v:Value)(m:List Int)(vs:List (Value×List Int))(hmv:VecAt W B rows mv m)(hv:VecsAt W B rows v vs)(hn:vs.length<=1000)(hm:VOk m)(hok:VecsIn (vs.map (·.2))) :
   Spec prog W B 283 [mv,v] rows (fun r post=>∃ ch,((r=mv/\midP m (vs.map (·.2))=m)\/VecAt W B ch r (midP m (vs.map (·.2))))/\post=ch++rows):=by
 have hmv':=hmv
 obtain⟨Am,cpm,rfl,hcpm,hlm,hsrcm,hAm⟩:=hmv'
 obtain⟨⟨A,cp,rfl,hcp,hl,hsrc,hA⟩,hvv⟩:=hv
 have hm8:=hm.1
 by_cases h0:vs=[]
 . subst h0
   refine Spec.eG [rows] func283 ntmps283 fun w0=>?_
   refine CW.go ut 10 rfl (LW.eql true rfl rfl (rfl) rfl ?_)
   refine LW.go ut 11 rfl ?_
   refine NW.ret1 rfl rfl ⟨_,⟨[],.inl ⟨rfl,by simp [midP]⟩,rfl⟩,?_⟩
   exact (Sub.one .t)
 . have hz:∀ m,(madeCells (Value.int .i32 0).cells (m*1)).toList=List.replicate m (.int .i32 0):=fun m=>by
     rw [Nat.mul_one]
     exact madeCells_rep _ _ _ (by intro x hx;simp [Value.cells] at hx;exact hx) (by simp [Value.cells])
   have hml:=List.length_pos_iff.2 h0
   have hms:midP m (vs.map (·.2))=(List.range m.length).map fun i=>sumAt i (vs.map (·.2))/(vs.length:Int):=by unfold midP;rw [if_neg (by simpa using h0)];simp
   have hpl:(midP m (vs.map (·.2))).length=m.length:=by rw [hms];simp
   refine Spec.eG [rows] func283 ntmps283 fun w0=>?_
   refine CW.go ut 10 rfl (LW.eqlF ?_)
   refine LW.go ut 9 rfl (LW.make (m.length) (m.length) (List.replicate m.length (.int .i32 0)) rfl rfl (by first | rfl | omega) (by first | rfl | omega) underlying25 info21 (by omega) (by omega) (by omega) (hz _) rfl ?_)
   intro bm16
   refine LW.go ut 12 rfl ?_
   refine CW.loopG (fun i:Nat=>[(19,iN i),(18,iN m.length),(5,.slice (sA bm16) m.length m.length),(1,.slice A vs.length cp)]) (fun i=>[[cr bm16 21 (((midP m (vs.map (·.2))).take i).map i32v++List.replicate (m.length-i) (.int .i32 0))],rows]) (fun i=>i<=m.length) (fun i=>m.length-i) 0 (by exact Nat.zero_le _) rfl (by repeat' constructor) ?_
   rintro i hi
   refine CW.go ut 2 rfl (LW.lss (decide ((i:Int)<(m.length:Int))) rfl rfl (rfl) rfl ?_)
   refine LW.go ut 3 rfl ?_
   refine CW.cond rfl (fun hc20=>?_) (fun hc20=>?_)
   . have hin:i<m.length:=oT hc20
     have hpi:(midP m (vs.map (·.2)))[i]?=some (sumAt i (vs.map (·.2))/(vs.length:Int)):=by rw [hms];simp [hin]
     have hsi:=sumAt_in i _ hok
     have hdi:=mid_in i hok (by simpa using h0)
     rw [List.length_map] at hsi hdi
     unfold InB at hdi
     refine CW.go ut 24 rfl ?_
     refine CW.loopG (fun j:Nat=>[(24,iN j),(23,iN vs.length),(22,.slice A vs.length cp),(7,.int .i64 (sumAt i ((vs.map (·.2)).take j))),(6,iN i),(19,iN i),(18,iN m.length),(5,.slice (sA bm16) m.length m.length),(1,.slice A vs.length cp)]) (fun _=>[[cr bm16 21 (((midP m (vs.map (·.2))).take i).map i32v++List.replicate (m.length-i) (.int .i32 0))],rows]) (fun j=>j<=vs.length) (fun j=>vs.length-j) 0 (by exact Nat.zero_le _) rfl (by repeat' constructor) ?_
     rintro j hj
     refine CW.go ut 2 rfl (LW.lss (decide ((j:Int)<(vs.length:Int))) rfl rfl (rfl) rfl ?_)
     refine LW.go ut 3 rfl ?_
     refine CW.cond rfl (fun hc25=>?_) (fun hc25=>?_)
     . have hjn:j<vs.length:=oT hc25
       obtain⟨x,hxj,hxd⟩:=drop_at hjn
       obtain⟨Ax,cpx,hxv,hcpx,hlx,hsrcx,hAx⟩:=hvv x (List.mem_of_getElem? hxj)
       have hxo:=hok x.2 (List.mem_map.2 ⟨x,List.mem_of_getElem? hxj,rfl⟩)
       obtain⟨a1,rfl⟩:∃ x,A=some x:=smA hA
       have hg1:(vs.map (·.1))[((j:Nat):Int).toNat*1]?=some (.slice Ax x.2.length cpx):=by rw [Int.toNat_natCast,Nat.mul_one,List.getElem?_map,hxj];exact congrArg some hxv
       have hsn:sumAt i ((vs.map (·.2)).take (j+1))=sumAt i ((vs.map (·.2)).take j)+x.2.getD i 0:=by rw [List.take_add_one,List.getElem?_map,hxj];exact sumAt_snoc _ _ _
       have hsb:=sumAt_in i ((vs.map (·.2)).take j) (fun v hv=>hok v (List.mem_of_mem_take hv))
       have hxb:=getD_in hxo.2 i
       have htl:((vs.map (·.2)).take j).length<=1000:=by rw [List.length_take,List.length_map];omega
       unfold InB at hxb
       refine CW.go ut 6 rfl (LW.indexAt rfl rfl underlying22 ixs22 (by omega) (by omega) rfl ?_)
       refine LW.loadRd (v:=.slice Ax x.2.length cpx) rfl (hsrc.rd .t) (hg1) one25 rfl ?_
       refine LW.go ut 8 rfl (LW.lss (decide ((i:Int)<(x.2.length:Int))) rfl rfl (rfl) rfl ?_)
       refine LW.go ut 2 rfl ?_
       refine CW.cond rfl (fun hc31=>?_) (fun hc31=>?_)
       . have hix:i<x.2.length:=oT hc31
         obtain⟨ax,rfl⟩:∃ x,Ax=some x:=smA hAx
         refine CW.go ut 4 rfl (LW.indexAt rfl rfl underlying25 ixs25 (by omega) (by omega) rfl ?_)
         refine LW.loadRd (v:=.int .i32 (x.2.getD i 0)) rfl (hsrcx.rd .t) (rd_at hix) one21 rfl ?_
         refine LW.convInt (x.2.getD i 0) rfl underlying21 underlying2 (by exact wr64 rfl (by omega) (by omega)) rfl ?_
         refine LW.add (sumAt i ((vs.map (·.2)).take (j+1))) rfl rfl (by rw [hsn];exact wr64 rfl (by omega) (by omega)) rfl ?_
         refine LW.go ut 5 rfl (LW.ad ((j+1:Int)) ?_)
         exact LW.go ut 2 rfl (NW.mG (j+1) (by exact⟨hjn,by omega⟩))
       . have hix:x.2.length<=i:=oF hc31
         have hg0:x.2.getD i 0=0:=by rw [List.getD_eq_getElem?_getD,List.getElem?_eq_none hix];rfl
         refine CW.go ut 4 rfl (LW.ad ((j+1:Int)) ?_)
         refine LW.go ut 2 rfl ?_
         rw [show sumAt i ((vs.map (·.2)).take j)=sumAt i ((vs.map (·.2)).take (j+1)) by rw [hsn,hg0,Int.add_zero]]
         exact NW.mG (j+1) (by exact⟨hjn,by omega⟩)
     . have hjn:j=vs.length:=oF hc25
       rw [hjn,List.take_of_length_le (l:=vs.map (·.2)) (i:=vs.length) (by simp)]
       refine CW.go ut 2 rfl (NW.then_exit (NW.go ut 8 rfl (LW.eT (means_floor W B (sumAt i (vs.map (·.2))) (vs.length:Int) (by omega) (by omega) (by omega) (by omega)) cl335 ((Take.none _)) ?_)))
       refine LW.convInt (sumAt i (vs.map (·.2))/(vs.length:Int)) rfl underlying2 underlying21 (by exact wr32 rfl (by omega) (by omega)) rfl ?_
       refine LW.indexAddr (i) rfl rfl underlying25 ixs25 (by omega) (by omega) (by simp) rfl ?_
       refine LW.store rfl rfl .t (by simp [hpl];omega) sz21 (rfl) ?_
       refine LW.go ut 3 rfl ?_
       rw [show (((midP m (vs.map (·.2))).take i).map i32v++List.replicate (m.length-i) (Value.int .i32 0)).set i (.int .i32 (sumAt i (vs.map (·.2))/(vs.length:Int)))=((midP m (vs.map (·.2))).take (i+1)).map i32v++List.replicate (m.length-(i+1)) (.int .i32 0) from set_fill i32v _ hpi hpl.symm]
       refine CW.go ut 1 rfl (LW.ad ((i+1:Int)) ?_)
       exact LW.go ut 2 rfl (NW.mG (i+1) (by exact⟨hin,by omega⟩))
   . have hin:i=m.length:=oF hc20
     refine CW.go ut 2 rfl (NW.then_exit (NW.go ut 9 rfl ?_))
     refine NW.ret1 rfl rfl ⟨_,⟨[cr bm16 21 ((midP m (vs.map (·.2))).map i32v)],.inr (OwnS.vec (W:=W) (B:=B) (by rw [hpl];exact OwnS.row (by rw [List.length_map,hpl,Nat.mul_one]))),rfl⟩,?_⟩
     rw [hin,List.take_of_length_le (by omega),Nat.sub_self,List.replicate_zero,List.append_nil];exact .s2
end
end Go.Proofs.YtnlpccoigflheaaGreatDoor
