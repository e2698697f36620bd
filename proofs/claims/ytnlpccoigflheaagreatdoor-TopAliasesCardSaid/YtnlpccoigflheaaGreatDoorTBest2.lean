/- TBest TBest2 -/
import Derived.Test.YtnlpccoigflheaaGreatDoorIns
import Derived.Test.YtnlpccoigflheaaGreatDoorFac
namespace Go.Proofs.YtnlpccoigflheaaGreatDoor
open Go.RowKit
open Go.Proofs.Tryz
def Tup:Tbl:=⟨[(72,0,0),(374,0,0),(374,1,1)],[],[37,85]⟩
theorem up:Tup.Ok Tryz.prog:=.of (⟨⟨_,Tryz.underlying37⟩,⟨_,Tryz.underlying85⟩,trivial⟩)
def hitsC (l:List (Int×Int)):List Value:=l.flatMap hitC
theorem hitsC_len:∀ l:List (Int×Int),(hitsC l).length=l.length*2
 | []=>rfl
 | x::r=>by rw [hitsC,List.flatMap_cons,List.length_append,<- hitsC,hitsC_len r,List.length_cons,Nat.add_mul];simp [hitC];omega
theorem hitsC_one (l:List (Int×Int)):∀ u∈hitsC l,u.oneCell'=true:=by
 intro u hu
 obtain⟨x,_,hx⟩:=List.mem_flatMap.1 hu
 simp only [hitC,List.mem_cons,List.not_mem_nil,or_false] at hx
 rcases hx with rfl | rfl<;>rfl
theorem hitsC_at {l:List (Int×Int)}{i:Nat}{x:Int×Int}(h:l[i]?=some x):∀ j v,(hitC x)[j]?=some v->(hitsC l)[((i:Nat):Int).toNat*2+j]?=some v:=by
 intro j v hj
 rw [Int.toNat_natCast]
 induction l generalizing i with
 | nil=>simp at h
 | cons y r ih=>
  rw [hitsC,List.flatMap_cons,<- hitsC]
  cases i with
  | zero=>
   obtain rfl:y=x:=by simpa using h
   have:=(List.getElem?_eq_some_iff.1 hj).1
   rw [List.getElem?_append_left (by omega),Nat.zero_mul,Nat.zero_add];exact hj
  | succ i=>
   rw [List.getElem?_append_right (by simp [hitC];omega)]
   have e:(i+1)*2+j-(hitC y).length=i*2+j:=by simp [hitC];omega
   rw [e];exact ih (by simpa using h)
theorem hitsC_take (l:List (Int×Int))(i:Nat):(hitsC l).take (i*2)=hitsC (l.take i):=by
 induction l generalizing i with
 | nil=>simp [hitsC]
 | cons x r ih=>
  cases i with
  | zero=>simp [hitsC]
  | succ i=>
   have e1:hitsC (x::r)=hitC x++hitsC r:=rfl
   have e2:hitsC (x::r.take i)=hitC x++hitsC (r.take i):=rfl
   have h2:(hitC x).length=2:=rfl
   rw [List.take_succ_cons,e1,e2,<- ih i,List.take_append,List.take_of_length_le (by omega),h2];congr 2;omega
theorem hitsC_drop (l:List (Int×Int))(i:Nat):(hitsC l).drop (i*2)=hitsC (l.drop i):=by
 induction l generalizing i with
 | nil=>simp [hitsC]
 | cons x r ih=>
  cases i with
  | zero=>simp [hitsC]
  | succ i=>
   have e1:hitsC (x::r)=hitC x++hitsC r:=rfl
   have h2:(hitC x).length=2:=rfl
   rw [List.drop_succ_cons,e1,<- ih i,List.drop_append,List.drop_eq_nil_of_le (by omega),h2,List.nil_append];congr 1;omega
theorem hitsC_app (a b:List (Int×Int)):hitsC (a++b)=hitsC a++hitsC b:=by simp [hitsC]
section
variable (W:World)(B:Nat)
theorem hcl (rows:List Row)(v:Value)(m:Nat)(xs:List Value)(hs:SlAt W B rows v m xs 2)(h1:∀ u∈xs,u.oneCell'=true)(hm:m<=1000000) :
  Spec prog W B 270 [v] rows (fun r post=>∃ ch,OwnS 72 2 r m xs ch/\post=ch++rows):=by
 obtain⟨A,cp,rfl,hcp,hl,hsrc,hA⟩:=hs
 cases A with
 | none=>
  obtain rfl:=hA rfl
  obtain rfl:xs=[]:=List.eq_nil_of_length_eq_zero (by omega)
  refine Spec.eG [rows] func270 ntmps270 fun w0=>?_
  refine CW.go up 9 rfl (LW.sliceNil true rfl underlying37 rfl rfl ?_)
  refine LW.go up 10 rfl ?_
  refine NW.r1 ⟨_,⟨[],OwnS.nil,rfl⟩,?_⟩
  exact Sub.one .t
 | some a=>
  refine Spec.eG [rows] func270 ntmps270 fun w0=>?_
  refine CW.go up 9 rfl (LW.sliceNil false rfl underlying37 rfl rfl ?_)
  refine LW.go up 7 rfl (LW.slice0 underlying37 info72 rfl ?_)
  intro bs5
  refine LW.go up 1 rfl (LW.append (xs) rfl rfl underlying37 underlying37 (.inr ⟨_,rfl⟩) info72 rfl (OwnS.row (m:=0) (xs:=[]) rfl) .t (fun _=>lenOf_slice _ _ _ _) (first_rd (hsrc.rd .t) hl hA) (hl) (h1) (by omega) (by omega) rfl ?_)
  intro v' ch' ho'
  refine LW.go up 4 rfl ?_
  refine NW.ret1 rfl rfl ⟨_,⟨ch',by simpa using ho',rfl⟩,?_⟩
  exact .s2
theorem hixf (rows:List Row)(v:Value)(xs:List (Int×Int))(p:Int×Int->Bool)(f:Nat)(us:List Value)(hc:Callee prog f)(hs:SlAt W B rows v xs.length (hitsC xs) 2)(hm:xs.length<=1000000)
   (hf:∀ x∈xs,Spec prog W B f ([hitV x]++us) rows (fun r post=>r=.bool (p x)/\post=rows)) :
   Spec prog W B 311 [v,.func (.func f) #[] us.toArray] rows (fun r post=>r=.int .i64 (idxF p xs 0)/\post=rows):=by
 obtain⟨A,cp,rfl,hcp,hl,hsrc,hA⟩:=hs
 refine Spec.eG [rows] func311 ntmps311 fun w0=>?_
 refine CW.go up 14 rfl ?_
 refine CW.loopG (fun i:Nat=>[(8,iN i),(7,iN xs.length),(0,.slice A xs.length cp),(1,.func (.func f) #[] us.toArray)]) (fun _=>[rows]) (fun i=>i<=xs.length/\idxF p xs 0=idxF p (xs.drop i) i) (fun i=>xs.length-i) 0 (by exact⟨Nat.zero_le _,rfl⟩) rfl (by repeat' constructor) ?_
 rintro i ⟨hi,hx⟩
 refine CW.go up 2 rfl (LW.lss (decide ((i:Int)<(xs.length:Int))) rfl rfl (rfl) rfl ?_)
 refine LW.go up 3 rfl ?_
 refine CW.cond rfl (fun hc9=>?_) (fun hc9=>?_)
 . have hin:i<xs.length:=oT hc9
   obtain⟨a,rfl⟩:∃ x,A=some x:=smA hA
   obtain⟨x,hxi,hxd⟩:=drop_at hin
   rw [hxd,idxF] at hx
   refine CW.go up 15 rfl (LW.indexAt rfl rfl underlying37 ixs37 (by omega) (by omega) rfl ?_)
   refine LW.loadAggRd (hitC x) rfl (hsrc.rd .t) (Nat.zero_lt_succ 1) (hitsC_at hxi) underlying72 rfl szt72 rfl ?_
   refine LW.callFn (args:=[hitV x]) (us:=us) rfl (hf x (List.mem_of_getElem? hxi)) hc ⟨rfl,trivial⟩ .t rfl ?_
   rintro _ _ ⟨rfl,rfl⟩
   refine LW.go up 2 rfl ?_
   refine CW.cond rfl (fun hc16=>?_) (fun hc16=>?_)
   . rw [if_pos hc16] at hx
     refine CW.go up 9 rfl (NW.then_ret ?_)
     refine NW.go up 2 rfl ?_
     refine NW.ret1 rfl rfl ⟨_,⟨by rw [hx],rfl⟩,?_⟩
     exact Sub.one .t
   . rw [if_neg (by rw [hc16];decide)] at hx
     refine CW.go up 4 rfl (LW.ad ((i+1:Int)) ?_)
     exact LW.go up 2 rfl (NW.mG (i+1) (by exact⟨⟨hin,hx⟩,by omega⟩))
 . have hin:i=xs.length:=oF hc9
   rw [hin,List.drop_length] at hx
   refine CW.go up 2 rfl (NW.then_exit (NW.go up 8 rfl ?_))
   refine NW.ret1 rfl rfl ⟨_,⟨by rw [hx];rfl,rfl⟩,?_⟩
   exact Sub.one .t
theorem hctf (rows:List Row)(v:Value)(xs:List (Int×Int))(p:Int×Int->Bool)(f:Nat)(us:List Value)(hc:Callee prog f)(hs:SlAt W B rows v xs.length (hitsC xs) 2)(hm:xs.length<=1000000)
  (hf:∀ x∈xs,Spec prog W B f ([hitV x]++us) rows (fun r post=>r=.bool (p x)/\post=rows)) :
  Spec prog W B 267 [v,.func (.func f) #[] us.toArray] rows (fun r post=>r=.bool (xs.any p)/\post=rows):=by
 refine Spec.eG [rows] func267 ntmps267 fun w0=>?_
 refine CW.go up 9 rfl (LW.eG (hixf W B rows v xs p f us hc hs hm hf) cl311 ?_)
 refine LW.geq (xs.any p) rfl rfl (idxF_any p xs 0) rfl ?_
 refine LW.go up 4 rfl ?_
 refine NW.r1 ⟨_,⟨rfl,rfl⟩,?_⟩
 exact Sub.one .t
theorem drop_cells {α:Type}{xs slack:List α}{k:Nat}:∀ j v,(xs.drop k)[j]?=some v->(xs++slack)[k+j]?=some v:=fun j v hj=>by
 rw [List.getElem?_drop] at hj
 rw [List.getElem?_append_left (List.getElem?_eq_some_iff.1 hj).1];exact hj
theorem xOv_312:XF prog 312 (Extern.SlicesOverlaps.overlaps #[37,37] #[4]):=fun args w=>@run_callFunc_extern prog 312 _ (Extern.SlicesOverlaps.overlaps #[37,37] #[4]) func312 (by kernel_rfl) (by kernel_rfl) (by kernel_rfl) (by kernel_rfl) args w
theorem ins_269 (v:Value)(m i:Nat)(xs ys:List Value)(ch:List Row)(bu:Nat)(ho:OwnS 72 2 v m xs ch)(hi:i<=m)(hy:ys.length=2)(h1:∀ u∈xs,u.oneCell'=true)(h2:∀ u∈ys,u.oneCell'=true)(hm:m<=1000000) :
   Spec prog W B 269 [v,iN i,.slice (sA bu) 1 1] (ch++[cr bu 72 ys]) (fun r post=>∃ ch',OwnS 72 2 r (m+1) (xs.take (i*2)++ys++xs.drop (i*2)) ch'/\post=ch'++[cr bu 72 ys]):=by
 have ho':=ho
 have hxl:=ho.len
 rcases ho with ⟨rfl,rfl,rfl,rfl⟩ | ⟨b,cap,slack,rfl,hl,hmc,hsl,rfl⟩
 . obtain rfl:i=0:=by omega
   refine Spec.eG [[],[cr bu 72 ys]] func269 ntmps269 fun w0=>?_
   refine CW.go up 9 rfl (LW.cut (0) (0) (0) (some _) none none rfl underlying37 szt72 (fun a hf=>congrArg some (hf.eval rfl)) (fun a hf=>rfl) (fun a hf=>rfl) (.inr ⟨_,rfl⟩) (.inl ⟨rfl,rfl,rfl⟩) (.inl ⟨rfl,rfl⟩) (by omega) (by omega) (by omega) (by omega) rfl ?_)
   refine LW.go up 13 rfl (LW.eqlF ?_)
   refine LW.go up 17 rfl (LW.eqlT ?_)
   refine LW.go up 7 rfl (LW.append (ys) rfl rfl underlying37 underlying37 (.inr ⟨_,rfl⟩) info72 rfl (ho') .t (fun _=>lenOf_slice _ _ _ _) (first_rd (RdAt.row .t (fun j v hj=>by simpa using hj)) (by simpa using hy) (fun h=>by cases h)) (by simpa using hy) (h2) (by omega) (by omega) rfl ?_)
   intro v' ch' ho2
   refine LW.go up 5 rfl ?_
   refine NW.ret1 rfl rfl ⟨_,⟨ch',by simpa using ho2,rfl⟩,?_⟩
   exact .s2
 . by_cases him:i=m
   . subst him
     refine Spec.eG [[cr b 72 (xs++slack)],[cr bu 72 ys]] func269 ntmps269 fun w0=>?_
     refine CW.go up 9 rfl (LW.cut (i) (i) (cap) (some _) none none rfl underlying37 szt72 (fun a hf=>congrArg some (hf.eval rfl)) (fun a hf=>rfl) (fun a hf=>rfl) (.inr ⟨_,rfl⟩) (.inl ⟨rfl,rfl,rfl⟩) (.inl ⟨rfl,rfl⟩) (by omega) (by omega) (by omega) (by omega) rfl ?_)
     refine LW.go up 13 rfl (LW.eqlF ?_)
     refine LW.go up 17 rfl (LW.eqlT ?_)
     refine LW.go up 7 rfl (LW.append (ys) rfl rfl underlying37 underlying37 (.inr ⟨_,rfl⟩) info72 rfl (ho') .t (fun _=>lenOf_slice _ _ _ _) (first_rd (RdAt.row .t (fun j v hj=>by simpa using hj)) (by simpa using hy) (fun h=>by cases h)) (by simpa using hy) (h2) (by omega) (by omega) rfl ?_)
     intro v' ch' ho2
     refine LW.go up 5 rfl ?_
     refine NW.ret1 rfl rfl ⟨_,⟨ch',by rw [List.take_of_length_le (by omega),List.drop_eq_nil_of_le (by omega),List.append_nil];exact ho2,rfl⟩,?_⟩
     exact .s2
   . have hilt:i<m:=by omega
     have hsx:∀ u∈xs.drop (i*2),u.oneCell'=true:=fun u hu=>h1 u (List.mem_of_mem_drop hu)
     have hdl:(xs.drop (i*2)).length=(m-i)*2:=by rw [List.length_drop,hl,Nat.sub_mul]
     have htl:(xs.take (i*2)).length=i*2:=by rw [List.length_take,hl];exact Nat.min_eq_left (Nat.mul_le_mul_right _ hi)
     by_cases hg:cap<m+1
     ·
      refine Spec.eG [[cr b 72 (xs++slack)],[cr bu 72 ys]] func269 ntmps269 fun w0=>?_
      refine CW.go up 9 rfl (LW.cutFrom (i) (i*2) rfl rfl underlying37 szt72 (by omega) (by omega) (by omega) (by omega) rfl ?_)
      refine LW.go up 13 rfl (LW.eqlF ?_)
      refine LW.go up 17 rfl (LW.eqlF ?_)
      refine LW.go up 10 rfl (LW.ad (((m+1:Nat):Int)) ?_)
      refine LW.go up 1 rfl (LW.capS rfl underlying37 rfl ?_)
      refine LW.gtrT ?_
      refine LW.go up 7 rfl (LW.cutTo (i) rfl rfl underlying37 szt72 (by omega) (by omega) rfl ?_)
      refine LW.go up 2 rfl (LW.ad (((m+1:Nat):Int)) ?_)
      refine LW.go up 1 rfl (LW.sub (((m+1-i:Nat):Int)) rfl rfl w6 rfl ?_)
      refine LW.appendZNew (k:=m+1-i) rfl rfl underlying37 underlying3 info72 rfl (by decide) (RdAt.row (xs:=xs.take (i*2)) .t (fun j v hj=>?_)) htl (by omega) (by omega) (by omega) (by omega) (by omega) rfl ?_
      . have hjl:=(List.getElem?_eq_some_iff.1 hj).1
        rw [Nat.zero_add,List.getElem?_append_left (by omega)]
        rw [List.getElem?_take_of_lt (by omega)] at hj;exact hj
      intro b' capn Z hcapn hZ
      rw [show i+(m+1-i)=m+1 by omega] at hcapn |-
      obtain⟨slack',hsl',hfin⟩:=ins_new hxl hi hy hZ hcapn
      refine LW.go up 7 rfl (LW.cutFrom (i) (i*2) rfl rfl underlying37 szt72 (by omega) (by omega) (by omega) (by omega) rfl ?_)
      refine LW.go up 1 rfl (LW.copy (ys) (_) rfl rfl underlying37 szt72 .t (RdAt.row .t (fun j v hj=>by simpa using hj)) (by rw [hy,Nat.min_eq_left (by omega)]) (fun h=>by cases h) (by rw [List.length_append,hZ,htl,hy];rw [<- Nat.add_mul];omega) (h2) (rfl) rfl ?_)
      refine LW.go up 3 rfl (CW.drawH [] mixed ?_)
      refine AW.ts [0,1,2,3,4,5,6,7] 1 (TW.mv ?_)
      refine TW.mv ?_
      refine TW.mv ?_
      refine TW.take rfl (Yl.add (((i+1:Nat):Int)) rfl rfl w6) rfl ?_
      refine TW.take rfl (Yl.cutFrom (i+1) ((i+1)*2) rfl rfl underlying37 szt72 (by omega) (by omega) (by omega) (by omega)) rfl ?_
      refine TW.mv ?_
      refine TW.mv ?_
      refine TW.take rfl (Yl.cutFrom (i) (i*2) rfl rfl underlying37 szt72 (by omega) (by omega) (by omega) (by omega)) rfl ?_
      refine TW.nil (AW.a 8 ?_)
      refine LW.copy (xs.drop (i*2)) (_) rfl rfl underlying37 szt72 .t (RdAt.row .t drop_cells) (by rw [hdl,Nat.min_eq_right (by omega)];congr 1;omega) (fun h=>by cases h) (by simp only [List.length_append,List.length_take,List.length_drop,hl,hZ,hy];omega) (hsx) (hfin) rfl ?_
      refine LW.nil (AW.b (AW.d ?_))
      refine NW.go up 9 rfl ?_
      refine NW.ret1 rfl rfl ⟨_,⟨_,.inr ⟨b',capn,slack',rfl,by rw [List.length_append,List.length_append,htl,hdl,hy,Nat.add_mul,Nat.sub_mul,Nat.one_mul];have:=Nat.mul_le_mul_right 2 hi;omega,hcapn,hsl',rfl⟩,rfl⟩,?_⟩
      exact .s2
     ·
      obtain⟨slack',hsl',hfin⟩:=ins_in hxl hi hy hsl (show m+1<=cap by omega)
      refine Spec.eG [[cr b 72 (xs++slack)],[cr bu 72 ys]] func269 ntmps269 fun w0=>?_
      refine CW.go up 9 rfl (LW.cutFrom (i) (i*2) rfl rfl underlying37 szt72 (by omega) (by omega) (by omega) (by omega) rfl ?_)
      refine LW.go up 13 rfl (LW.eqlF ?_)
      refine LW.go up 17 rfl (LW.eqlF ?_)
      refine LW.go up 10 rfl (LW.ad (((m+1:Nat):Int)) ?_)
      refine LW.go up 1 rfl (LW.capS rfl underlying37 rfl ?_)
      refine LW.gtrF ?_
      refine LW.go up 10 rfl (LW.ad (((m+1:Nat):Int)) ?_)
      refine LW.cut (0) (m+1) (cap) none (some _) none rfl underlying37 szt72 (fun a hf=>rfl) (fun a hf=>congrArg some (hf.eval rfl)) (fun a hf=>rfl) (.inl ⟨rfl,rfl⟩) (.inr ⟨_,rfl⟩) (.inl ⟨rfl,rfl⟩) (by omega) (by omega) (by omega) (by omega) rfl ?_
      simp only [cutA_zero',Nat.sub_zero]
      refine LW.go up 10 rfl (LW.ad (((i+1:Nat):Int)) ?_)
      refine LW.cutFrom (i+1) ((i+1)*2) rfl rfl underlying37 szt72 (by omega) (by omega) (by omega) (by omega) rfl ?_
      refine LW.ext (.bool false) xOv_312 (args:=[_,_]) ⟨rfl,rfl,trivial⟩ (run_overlaps_rows underlying37 szt72 .t .t (fun h=>by rw [List.append_eq_nil_iff] at h;rw [h.1] at hl;simp at hl;omega)) rfl ?_
      refine LW.go up 5 rfl (CW.drawH [] mixed ?_)
      refine AW.ts [0,1,2,3,4,5,6,7] 1 (TW.mv ?_)
      refine TW.mv ?_
      refine TW.mv ?_
      refine TW.take rfl (Yl.add (((i+1:Nat):Int)) rfl rfl w6) rfl ?_
      refine TW.take rfl (Yl.cutFrom (i+1) ((i+1)*2) rfl rfl underlying37 szt72 (by omega) (by omega) (by omega) (by omega)) rfl ?_
      refine TW.mv ?_
      refine TW.mv ?_
      refine TW.take rfl (Yl.cutFrom (i) (i*2) rfl rfl underlying37 szt72 (by omega) (by omega) (by omega) (by omega)) rfl ?_
      refine TW.nil (AW.a 8 ?_)
      refine LW.copy (xs.drop (i*2)) (_) rfl rfl underlying37 szt72 .t (RdAt.row .t drop_cells) (by rw [hdl,Nat.min_eq_right (by omega)];congr 1;omega) (fun h=>by cases h) (by simp only [List.length_append,List.length_take,List.length_drop,hl,hsl,hy];omega) (hsx) (rfl) rfl ?_
      refine LW.nil (AW.b (AW.d ?_))
      refine NW.go up 5 rfl (LW.cutFrom (i) (i*2) rfl rfl underlying37 szt72 (by omega) (by omega) (by omega) (by omega) rfl ?_)
      refine LW.go up 1 rfl (LW.copy (ys) (_) rfl rfl underlying37 szt72 .t (RdAt.row .t (fun j v hj=>by simpa using hj)) (by rw [hy,Nat.min_eq_left (by omega)]) (fun h=>by cases h) (by simp only [List.length_append,List.length_take,List.length_drop,hl,hsl,hy];omega) (h2) (hfin) rfl ?_)
      refine LW.go up 10 rfl ?_
      refine NW.ret1 rfl rfl ⟨_,⟨_,.inr ⟨b,cap,slack',rfl,by rw [List.length_append,List.length_append,htl,hdl,hy,Nat.add_mul,Nat.sub_mul,Nat.one_mul];have:=Nat.mul_le_mul_right 2 hi;omega,by omega,hsl',rfl⟩,rfl⟩,?_⟩
      exact .s2
theorem xOv_290:XF prog 290 (Extern.SlicesOverlaps.overlaps #[85,85] #[4]):=fun args w=>@run_callFunc_extern prog 290 _ (Extern.SlicesOverlaps.overlaps #[85,85] #[4]) func290 (by kernel_rfl) (by kernel_rfl) (by kernel_rfl) (by kernel_rfl) args w
theorem ins_235 (v:Value)(m i:Nat)(xs ys:List Value)(ch:List Row)(bu:Nat)(ho:OwnS 3 1 v m xs ch)(hi:i<=m)(hy:ys.length=1)(h1:∀ u∈xs,u.oneCell'=true)(h2:∀ u∈ys,u.oneCell'=true)(hm:m<=1000000) :
   Spec prog W B 235 [v,iN i,.slice (sA bu) 1 1] (ch++[cr bu 3 ys]) (fun r post=>∃ ch',OwnS 3 1 r (m+1) (xs.take (i*1)++ys++xs.drop (i*1)) ch'/\post=ch'++[cr bu 3 ys]):=by
 have ho':=ho
 have hxl:=ho.len
 rcases ho with ⟨rfl,rfl,rfl,rfl⟩ | ⟨b,cap,slack,rfl,hl,hmc,hsl,rfl⟩
 . obtain rfl:i=0:=by omega
   refine Spec.eG [[],[cr bu 3 ys]] func235 ntmps235 fun w0=>?_
   refine CW.go up 9 rfl (LW.cut (0) (0) (0) (some _) none none rfl underlying85 szt3 (fun a hf=>congrArg some (hf.eval rfl)) (fun a hf=>rfl) (fun a hf=>rfl) (.inr ⟨_,rfl⟩) (.inl ⟨rfl,rfl,rfl⟩) (.inl ⟨rfl,rfl⟩) (by omega) (by omega) (by omega) (by omega) rfl ?_)
   refine LW.go up 13 rfl (LW.eqlF ?_)
   refine LW.go up 17 rfl (LW.eqlT ?_)
   refine LW.go up 7 rfl (LW.append (ys) rfl rfl underlying85 underlying85 (.inr ⟨_,rfl⟩) info3 rfl (ho') .t (fun _=>lenOf_slice _ _ _ _) (first_rd (RdAt.row .t (fun j v hj=>by simpa using hj)) (by simpa using hy) (fun h=>by cases h)) (by simpa using hy) (h2) (by omega) (by omega) rfl ?_)
   intro v' ch' ho2
   refine LW.go up 5 rfl ?_
   refine NW.ret1 rfl rfl ⟨_,⟨ch',by simpa using ho2,rfl⟩,?_⟩
   exact .s2
 . by_cases him:i=m
   . subst him
     refine Spec.eG [[cr b 3 (xs++slack)],[cr bu 3 ys]] func235 ntmps235 fun w0=>?_
     refine CW.go up 9 rfl (LW.cut (i) (i) (cap) (some _) none none rfl underlying85 szt3 (fun a hf=>congrArg some (hf.eval rfl)) (fun a hf=>rfl) (fun a hf=>rfl) (.inr ⟨_,rfl⟩) (.inl ⟨rfl,rfl,rfl⟩) (.inl ⟨rfl,rfl⟩) (by omega) (by omega) (by omega) (by omega) rfl ?_)
     refine LW.go up 13 rfl (LW.eqlF ?_)
     refine LW.go up 17 rfl (LW.eqlT ?_)
     refine LW.go up 7 rfl (LW.append (ys) rfl rfl underlying85 underlying85 (.inr ⟨_,rfl⟩) info3 rfl (ho') .t (fun _=>lenOf_slice _ _ _ _) (first_rd (RdAt.row .t (fun j v hj=>by simpa using hj)) (by simpa using hy) (fun h=>by cases h)) (by simpa using hy) (h2) (by omega) (by omega) rfl ?_)
     intro v' ch' ho2
     refine LW.go up 5 rfl ?_
     refine NW.ret1 rfl rfl ⟨_,⟨ch',by rw [List.take_of_length_le (by omega),List.drop_eq_nil_of_le (by omega),List.append_nil];exact ho2,rfl⟩,?_⟩
     exact .s2
   . have hilt:i<m:=by omega
     have hsx:∀ u∈xs.drop (i*1),u.oneCell'=true:=fun u hu=>h1 u (List.mem_of_mem_drop hu)
     have hdl:(xs.drop (i*1)).length=(m-i)*1:=by rw [List.length_drop,hl,Nat.sub_mul]
     have htl:(xs.take (i*1)).length=i*1:=by rw [List.length_take,hl];exact Nat.min_eq_left (Nat.mul_le_mul_right _ hi)
     by_cases hg:cap<m+1
     ·
      refine Spec.eG [[cr b 3 (xs++slack)],[cr bu 3 ys]] func235 ntmps235 fun w0=>?_
      refine CW.go up 9 rfl (LW.cutFrom (i) (i*1) rfl rfl underlying85 szt3 (by omega) (by omega) (by omega) (by omega) rfl ?_)
      refine LW.go up 13 rfl (LW.eqlF ?_)
      refine LW.go up 17 rfl (LW.eqlF ?_)
      refine LW.go up 10 rfl (LW.ad (((m+1:Nat):Int)) ?_)
      refine LW.go up 1 rfl (LW.capS rfl underlying85 rfl ?_)
      refine LW.gtrT ?_
      refine LW.go up 7 rfl (LW.cutTo (i) rfl rfl underlying85 szt3 (by omega) (by omega) rfl ?_)
      refine LW.go up 2 rfl (LW.ad (((m+1:Nat):Int)) ?_)
      refine LW.go up 1 rfl (LW.sub (((m+1-i:Nat):Int)) rfl rfl w6 rfl ?_)
      refine LW.appendZNew (k:=m+1-i) rfl rfl underlying85 underlying3 info3 rfl (by decide) (RdAt.row (xs:=xs.take (i*1)) .t (fun j v hj=>?_)) htl (by omega) (by omega) (by omega) (by omega) (by omega) rfl ?_
      . have hjl:=(List.getElem?_eq_some_iff.1 hj).1
        rw [Nat.zero_add,List.getElem?_append_left (by omega)]
        rw [List.getElem?_take_of_lt (by omega)] at hj;exact hj
      intro b' capn Z hcapn hZ
      rw [show i+(m+1-i)=m+1 by omega] at hcapn |-
      obtain⟨slack',hsl',hfin⟩:=ins_new hxl hi hy hZ hcapn
      refine LW.go up 7 rfl (LW.cutFrom (i) (i*1) rfl rfl underlying85 szt3 (by omega) (by omega) (by omega) (by omega) rfl ?_)
      refine LW.go up 1 rfl (LW.copy (ys) (_) rfl rfl underlying85 szt3 .t (RdAt.row .t (fun j v hj=>by simpa using hj)) (by rw [hy,Nat.min_eq_left (by omega)]) (fun h=>by cases h) (by rw [List.length_append,hZ,htl,hy];rw [<- Nat.add_mul];omega) (h2) (rfl) rfl ?_)
      refine LW.go up 3 rfl (CW.drawH [] mixed ?_)
      refine AW.ts [0,1,2,3,4,5,6,7] 1 (TW.mv ?_)
      refine TW.mv ?_
      refine TW.mv ?_
      refine TW.take rfl (Yl.add (((i+1:Nat):Int)) rfl rfl w6) rfl ?_
      refine TW.take rfl (Yl.cutFrom (i+1) ((i+1)*1) rfl rfl underlying85 szt3 (by omega) (by omega) (by omega) (by omega)) rfl ?_
      refine TW.mv ?_
      refine TW.mv ?_
      refine TW.take rfl (Yl.cutFrom (i) (i*1) rfl rfl underlying85 szt3 (by omega) (by omega) (by omega) (by omega)) rfl ?_
      refine TW.nil (AW.a 8 ?_)
      refine LW.copy (xs.drop (i*1)) (_) rfl rfl underlying85 szt3 .t (RdAt.row .t drop_cells) (by rw [hdl,Nat.min_eq_right (by omega)];congr 1;omega) (fun h=>by cases h) (by simp only [List.length_append,List.length_take,List.length_drop,hl,hZ,hy];omega) (hsx) (hfin) rfl ?_
      refine LW.nil (AW.b (AW.d ?_))
      refine NW.go up 9 rfl ?_
      refine NW.ret1 rfl rfl ⟨_,⟨_,.inr ⟨b',capn,slack',rfl,by rw [List.length_append,List.length_append,htl,hdl,hy,Nat.add_mul,Nat.sub_mul,Nat.one_mul];have:=Nat.mul_le_mul_right 1 hi;omega,hcapn,hsl',rfl⟩,rfl⟩,?_⟩
      exact .s2
     ·
      obtain⟨slack',hsl',hfin⟩:=ins_in hxl hi hy hsl (show m+1<=cap by omega)
      refine Spec.eG [[cr b 3 (xs++slack)],[cr bu 3 ys]] func235 ntmps235 fun w0=>?_
      refine CW.go up 9 rfl (LW.cutFrom (i) (i*1) rfl rfl underlying85 szt3 (by omega) (by omega) (by omega) (by omega) rfl ?_)
      refine LW.go up 13 rfl (LW.eqlF ?_)
      refine LW.go up 17 rfl (LW.eqlF ?_)
      refine LW.go up 10 rfl (LW.ad (((m+1:Nat):Int)) ?_)
      refine LW.go up 1 rfl (LW.capS rfl underlying85 rfl ?_)
      refine LW.gtrF ?_
      refine LW.go up 10 rfl (LW.ad (((m+1:Nat):Int)) ?_)
      refine LW.cut (0) (m+1) (cap) none (some _) none rfl underlying85 szt3 (fun a hf=>rfl) (fun a hf=>congrArg some (hf.eval rfl)) (fun a hf=>rfl) (.inl ⟨rfl,rfl⟩) (.inr ⟨_,rfl⟩) (.inl ⟨rfl,rfl⟩) (by omega) (by omega) (by omega) (by omega) rfl ?_
      simp only [cutA_zero',Nat.sub_zero]
      refine LW.go up 10 rfl (LW.ad (((i+1:Nat):Int)) ?_)
      refine LW.cutFrom (i+1) ((i+1)*1) rfl rfl underlying85 szt3 (by omega) (by omega) (by omega) (by omega) rfl ?_
      refine LW.ext (.bool false) xOv_290 (args:=[_,_]) ⟨rfl,rfl,trivial⟩ (run_overlaps_rows underlying85 szt3 .t .t (fun h=>by rw [List.append_eq_nil_iff] at h;rw [h.1] at hl;simp at hl;omega)) rfl ?_
      refine LW.go up 5 rfl (CW.drawH [] mixed ?_)
      refine AW.ts [0,1,2,3,4,5,6,7] 1 (TW.mv ?_)
      refine TW.mv ?_
      refine TW.mv ?_
      refine TW.take rfl (Yl.add (((i+1:Nat):Int)) rfl rfl w6) rfl ?_
      refine TW.take rfl (Yl.cutFrom (i+1) ((i+1)*1) rfl rfl underlying85 szt3 (by omega) (by omega) (by omega) (by omega)) rfl ?_
      refine TW.mv ?_
      refine TW.mv ?_
      refine TW.take rfl (Yl.cutFrom (i) (i*1) rfl rfl underlying85 szt3 (by omega) (by omega) (by omega) (by omega)) rfl ?_
      refine TW.nil (AW.a 8 ?_)
      refine LW.copy (xs.drop (i*1)) (_) rfl rfl underlying85 szt3 .t (RdAt.row .t drop_cells) (by rw [hdl,Nat.min_eq_right (by omega)];congr 1;omega) (fun h=>by cases h) (by simp only [List.length_append,List.length_take,List.length_drop,hl,hsl,hy];omega) (hsx) (rfl) rfl ?_
      refine LW.nil (AW.b (AW.d ?_))
      refine NW.go up 5 rfl (LW.cutFrom (i) (i*1) rfl rfl underlying85 szt3 (by omega) (by omega) (by omega) (by omega) rfl ?_)
      refine LW.go up 1 rfl (LW.copy (ys) (_) rfl rfl underlying85 szt3 .t (RdAt.row .t (fun j v hj=>by simpa using hj)) (by rw [hy,Nat.min_eq_left (by omega)]) (fun h=>by cases h) (by simp only [List.length_append,List.length_take,List.length_drop,hl,hsl,hy];omega) (h2) (hfin) rfl ?_)
      refine LW.go up 10 rfl ?_
      refine NW.ret1 rfl rfl ⟨_,⟨_,.inr ⟨b,cap,slack',rfl,by rw [List.length_append,List.length_append,htl,hdl,hy,Nat.add_mul,Nat.sub_mul,Nat.one_mul];have:=Nat.mul_le_mul_right 1 hi;omega,by omega,hsl',rfl⟩,rfl⟩,?_⟩
      exact .s2
end
open Go.RowKit
theorem hitC_one (x:Int×Int):∀ u∈hitC x,u.oneCell'=true:=by
 intro u hu
 simp only [hitC,List.mem_cons,List.not_mem_nil,or_false] at hu
 rcases hu with rfl | rfl<;>rfl
def cntH (h:Int×Int):List (Int×Int)->Nat
 | []=>0
 | x::r=>if lessH x h=true then cntH h r+1 else 0
theorem cntH_le (h:Int×Int):∀ l,cntH h l<=l.length
 | []=>Nat.le_refl _
 | x::r=>by
  have:=cntH_le h r
  simp only [cntH,List.length_cons]
  split<;>omega
def putB (k:Nat)(l:List (Int×Int))(h:Int×Int):List (Int×Int):=
 if l.any (fun x=>x.1==h.1) then l else if k<=cntH h l then l else (l.take (cntH h l)++[h]++l.drop (cntH h l)).take k
def bestOf (k:Nat)(hs:List (Int×Int)):List (Int×Int):=hs.foldl (putB k) []
theorem putB_len {k:Nat}{l:List (Int×Int)}{h:Int×Int}(hl:l.length<=k):(putB k l h).length<=k:=by
 unfold putB
 split
 . exact hl
 . split
   . exact hl
   . rw [List.length_take];omega
theorem ins_len {l:List (Int×Int)}{h:Int×Int}(i:Nat):(l.take i++[h]++l.drop i).length=l.length+1:=by
 have h1:=congrArg List.length (List.take_append_drop i l)
 simp only [List.length_append,List.length_cons,List.length_nil] at h1 |-
 omega
def BestR (p k:Nat)(l:List (Int×Int))(rows:List Row):Prop:=∃ v ch,OwnS 72 2 v l.length (hitsC l) ch/\rows=[cr p 374 [v,iN k]]++ch/\l.length<=k/\k<=100000
section
variable (W:World)(B:Nat)
theorem best_New (k:Nat)(hk:k<=100000):Spec prog W B 212 [iN k] [] (fun r post=>∃ p,r=ptr p/\BestR p k [] post):=by
 refine Spec.eG [] func212 ntmps212 fun w0=>?_
 refine CW.go up 8 rfl (LW.max2 (k:Int) rfl rfl (by split<;>omega) rfl ?_)
 refine LW.bd [_] (#[.slice none 0 0,iN k]) ?_
 refine LW.bx ?_
 intro bb6
 refine LW.go up 4 rfl ?_
 refine NW.r1 ⟨_,⟨_,rfl,_,[],OwnS.nil,rfl,Nat.zero_le _,hk⟩,?_⟩
 exact Sub.one .t
theorem best_Put1 (b:Nat)(x h:Int×Int)(rows:List Row):Spec prog W B 268 [hitV x,ptr b] (rows++[cr b 72 (hitC h)]) (fun r post=>r=.bool (x.1==h.1)/\post=rows++[cr b 72 (hitC h)]):=by
 refine Spec.eG [rows,[cr b 72 (hitC h)]] func268 ntmps268 fun w0=>?_
 refine CW.go up 2 rfl (LW.bx ?_)
 intro bb2
 refine LW.go up 6 rfl (LW.load (v:=.int .i64 x.1) rfl .t (rfl) one3 rfl ?_)
 refine LW.go up 1 rfl (LW.load (v:=.int .i64 h.1) rfl .t (rfl) one3 rfl ?_)
 refine LW.eql (x.1==h.1) rfl rfl (rfl) rfl ?_
 refine LW.go up 4 rfl ?_
 refine NW.r1 ⟨_,⟨rfl,rfl⟩,?_⟩
 exact .s2
theorem best_Put (p k:Nat)(l:List (Int×Int))(h:Int×Int)(rows:List Row)(hb:BestR p k l rows) :
   Spec prog W B 213 [ptr p,hitV h] rows (fun r post=>(∃ b,r=.bool b)/\BestR p k (putB k l h) post):=by
 obtain⟨v,ch,ho,rfl,hlk,hk⟩:=hb
 have hcl:=cntH_le h l
 refine Spec.eG [[cr p 374 [v,iN k]],ch] func213 ntmps213 fun w0=>?_
 refine CW.go up 2 rfl (LW.bx ?_)
 intro bb3
 refine LW.go up 7 rfl (LW.pn underlying330 ?_)
 refine LW.go up 8 rfl (LW.ld one37 ?_)
 refine LW.go up 1 rfl (LW.makeFn (vs:=[]) (us:=[ptr bb3]) trivial ⟨rfl,trivial⟩ rfl ?_)
 refine LW.go up 1 rfl (LW.eT (hctf W B (ch++[cr bb3 72 (hitC h)]) v l (fun x=>x.1==h.1) 268 [ptr bb3] cl268 (ho.sl.more fun x hx=>List.mem_append_left _ hx) (by omega) (fun x _=>best_Put1 W B bb3 x h ch)) cl267 .n2 ?_)
 refine LW.splitA ?_
 refine LW.go up 3 rfl ?_
 refine CW.cond rfl (fun hc15=>?_) (fun hc15=>?_)
 . have hpb:putB k l h=l:=by unfold putB;rw [if_pos hc15]
   refine CW.go up 7 rfl ?_
   refine NW.ret1 rfl rfl ⟨_,⟨⟨_,rfl⟩,by rw [hpb];exact⟨v,ch,ho,rfl,hlk,hk⟩⟩,?_⟩
   exact .s2
 . have hpb:putB k l h=if k<=cntH h l then l else (l.take (cntH h l)++[h]++l.drop (cntH h l)).take k:=by unfold putB;rw [if_neg (by rw [hc15];decide)]
   refine CW.go up 7 rfl ?_
   refine CW.cutG (fun i:Nat=>[(5,iN i),(0,ptr p),(3,ptr bb3)]) (fun _=>[[cr p 374 [v,iN k]],ch,[cr bb3 72 (hitC h)]]) (fun i=>i=cntH h l) ?cut6_1 ?cut6_2
   case cut6_1=>
    refine CW.go up 1 rfl ?_
    refine CW.loopG (fun i:Nat=>[(5,iN i),(0,ptr p),(3,ptr bb3)]) (fun _=>[[cr p 374 [v,iN k]],ch,[cr bb3 72 (hitC h)]]) (fun i=>i<=l.length/\i+cntH h (l.drop i)=cntH h l) (fun i=>l.length-i) 0 (by exact⟨Nat.zero_le _,by simp⟩) rfl (by repeat' constructor) ?_
    rintro i ⟨hi,hx⟩
    have hsl:=ho.sl (W:=W) (B:=B)
    obtain⟨A,cp,rfl,hcp,hl,hsrc,hA⟩:=hsl
    refine CW.go up 2 rfl (CW.quiet mixed (by kernel_rfl) ?_)
    refine QW.mv ?_
    refine QW.mv ?_
    refine QW.step (Yl.nilPtr rfl) rfl ?_
    refine QW.step (Yl.fieldAddr _ rfl (fun _=>fa374_0 _ _ _)) rfl ?_
    refine QW.step (Yl.loadSt rfl .t rfl one37) rfl ?_
    refine QW.step (Yl.lenSlice rfl underlying37) rfl ?_
    by_cases hil:i<l.length
    . obtain⟨a,rfl⟩:∃ x,A=some x:=smA hA
      obtain⟨x,hxi,hxd⟩:=drop_at hil
      rw [hxd,cntH] at hx
      refine QW.step (Yl.lss true rfl rfl dT) rfl ?_
      refine QW.mv ?_
      refine QW.on 23 rfl rfl ?_
      refine QW.mv ?_
      refine QW.on 23 rfl rfl ?_
      refine QW.step (Yl.nilPtr rfl) rfl ?_
      refine QW.on 23 rfl rfl ?_
      refine QW.step (Yl.fieldAddr _ rfl (fun _=>fa374_0 _ _ _)) rfl ?_
      refine QW.on 23 rfl rfl ?_
      refine QW.step (Yl.loadSt rfl .t rfl one37) rfl ?_
      refine QW.on 23 rfl rfl ?_
      refine QW.mv ?_
      refine QW.on 23 rfl rfl ?_
      refine QW.step (Yl.indexAt rfl rfl underlying37 ixs37 (by omega) (by omega)) rfl ?_
      refine QW.on 23 rfl rfl ?_
      refine QW.step (Yl.loadAggRd (hitC x) rfl (hsrc.rd .t) (Nat.zero_lt_succ 1) (hitsC_at hxi) underlying72 rfl szt72) rfl ?_
      refine QW.on 23 rfl rfl ?_
      refine QW.step (Yl.loadAggRd (a:=⟨bb3,0,none⟩) (j0:=0) (hitC h) rfl (RdAt.row .t (xs:=hitC h) zd) (Nat.zero_lt_succ 1) zd underlying72 rfl szt72) rfl ?_
      refine QW.on 23 rfl rfl ?_
      refine QW.call (.bool (lessH x h)) (metric_Less W B x h) func217 rfl fname217 ⟨rfl,rfl,trivial⟩ (Take.none _) (fun _ _ hh=>⟨hh.1,Sub.nil _⟩) rfl ?_
      refine QW.step (Yl.pickT rfl rfl) rfl ?_
      refine QW.nil ?_
      refine NW.go up 1 rfl ?_
      refine CW.cond rfl (fun hc33=>?_) (fun hc33=>?_)
      . rw [if_pos hc33] at hx
        refine CW.go up 5 rfl (LW.ad ((i+1:Int)) ?_)
        exact LW.go up 3 rfl (NW.mG (i+1) (by exact⟨⟨hil,by omega⟩,by omega⟩))
      . rw [if_neg (by rw [hc33];decide)] at hx
        exact CW.go up 2 rfl (NW.then_exit (NW.go up 1 rfl (NW.mG (i) (by show i=cntH h l;omega))))
    . rw [List.drop_eq_nil_of_le (by omega),cntH] at hx
      refine QW.step (Yl.lss false rfl rfl dF) rfl ?_
      refine QW.mv ?_
      refine QW.of 23 ?_
      refine QW.of 23 ?_
      refine QW.of 23 ?_
      refine QW.of 23 ?_
      refine QW.of 23 ?_
      refine QW.of 23 ?_
      refine QW.of 23 ?_
      refine QW.of 23 ?_
      refine QW.of 23 ?_
      refine QW.step (Yl.pickF rfl rfl) rfl ?_
      refine QW.nil ?_
      exact NW.go up 4 rfl (NW.then_exit (NW.go up 1 rfl (NW.mG (i) (by show i=cntH h l;omega))))
   case cut6_2=>
    rintro i hi
    refine CW.go up 7 rfl (LW.ld one3 ?_)
    refine LW.geq (decide ((i:Int)>=(k:Int))) rfl rfl (rfl) rfl ?_
    refine LW.go up 2 rfl ?_
    refine CW.cond rfl (fun hc41=>?_) (fun hc41=>?_)
    . have hki:k<=cntH h l:=oT hc41
      rw [if_pos hki] at hpb
      refine CW.go up 7 rfl ?_
      refine NW.ret1 rfl rfl ⟨_,⟨⟨_,rfl⟩,by rw [hpb];exact⟨v,ch,ho,rfl,hlk,hk⟩⟩,?_⟩
      exact .s2
    . have hki:¬ k<=cntH h l:=oF hc41
      rw [if_neg hki] at hpb
      refine CW.go up 3 rfl (CW.drawT [cr p 374 [v,iN k],cr bb3 72 (hitC h)] 11 mixed ?_)
      refine AT.ts [(0,none),(1,none),(2,none),(3,none),(4,some []),(5,none),(6,some [])] 5 (TT.mv ?_)
      refine TT.mv ?_
      refine TT.np ?_
      refine TT.fa fa374_0 ?_
      refine TT.ld one37 ?_
      refine TT.mv ?_
      refine TT.takeH rfl (Yl.loadAgg (hitC h) rfl (by repeat (first | exact List.Mem.head _ | refine List.Mem.tail _ ?_)) zd underlying72 rfl (sze szt72)) rfl ?_
      refine TT.nil (AT.a 7 ?_)
      refine LW.buildSliceA [hitC h] ⟨rfl,trivial⟩ rfl (by intro v hv;simp at hv;subst hv;rfl) (by decide) underlying37 info72 rfl (by decide) (by decide) rfl ?_
      intro bs49
      refine LW.nil (AT.b (AT.a 8 ?_))
      refine LW.cT (ins_269 W B v l.length i (hitsC l) ([hitC h].flatten) ch bs49 ho (by omega) rfl (hitsC_one l) (by rw [List.flatten_cons,List.flatten_nil,List.append_nil];exact hitC_one h) (by omega)) cl269 .n2 ?_
      rintro r _ ⟨ch2,ho2,rfl⟩;refine LW.splitA ?_
      have hlen2:=ins_len (l:=l) (h:=h) i
      have heq2:(hitsC l).take (i*2)++[hitC h].flatten++(hitsC l).drop (i*2)=hitsC (l.take i++[h]++l.drop i):=by rw [hitsC_app,hitsC_app,hitsC_take,hitsC_drop];rfl
      rw [heq2] at ho2
      obtain⟨A2,cp2,rfl,hA2,hc2⟩:=ho2.val
      refine LW.nil (AT.b (AT.ts [(9,none),(10,none)] 1 (TT.np ?_)))
      refine TT.fa fa374_0 ?_
      refine TT.nil (AT.a 11 ?_)
      refine LW.sr sz37 ?_
      refine LW.nil (AT.backK (by kernel_rfl) ?_)
      refine AT.done (by kernel_rfl) ?_
      refine NW.go up 2 rfl (CW.drawT [cr p 374 [.slice A2 (l.length+1) cp2,iN k]] 18 mixed ?_)
      refine AT.ts [(0,none),(1,none),(2,none),(3,none),(4,some []),(5,none),(6,none),(7,none),(8,some []),(9,none),(10,none),(11,none),(12,none),(13,some []),(14,none),(15,none),(16,none),(17,none)] 1 (TT.mv ?_)
      refine TT.mv ?_
      refine TT.np ?_
      refine TT.fa fa374_0 ?_
      refine TT.ld one37 ?_
      refine TT.mv ?_
      refine TT.np ?_
      refine TT.fa fa374_0 ?_
      refine TT.ld one37 ?_
      refine TT.take rfl (Yl.lenSlice rfl underlying37) rfl ?_
      refine TT.mv ?_
      refine TT.np ?_
      refine TT.fa fa374_1 ?_
      refine TT.ld one3 ?_
      refine TT.take rfl (Yl.min2 (((min (l.length+1) k:Nat):Int)) rfl rfl (by split<;>omega)) rfl ?_
      refine TT.take rfl (Yl.cutTo (min (l.length+1) k) rfl rfl underlying37 szt72 (by omega) (by omega)) rfl ?_
      refine TT.np ?_
      refine TT.fa fa374_0 ?_
      refine TT.nil (AT.a 18 ?_)
      refine LW.sr sz37 ?_
      refine LW.nil (AT.backK (by kernel_rfl) ?_)
      refine AT.done (by kernel_rfl) ?_
      refine NW.go up 2 rfl ?_
      have hown:=ho2.cutTo (m':=min (l.length+1) k) (by omega)
      have he:(l.take i++[h]++l.drop i).take (min (l.length+1) k)=putB k l h:=by rw [hpb,<- hi,List.take_eq_take_min (i:=k),hlen2,Nat.min_comm]
      have hle:(putB k l h).length=min (l.length+1) k:=by rw [<- he,List.length_take,hlen2];omega
      rw [hitsC_take,he] at hown
      refine CW.go up 5 rfl ?_
      refine NW.ret1 rfl rfl ⟨_,⟨⟨_,rfl⟩,_,ch2,by rw [hle];exact hown,rfl,putB_len hlk,hk⟩,?_⟩
      exact .s2
theorem best_All (p k:Nat)(l:List (Int×Int))(rows:List Row)(hb:BestR p k l rows) :
  Spec prog W B 214 [ptr p] rows (fun r post=>∃ ch,OwnS 72 2 r l.length (hitsC l) ch/\post=ch++rows):=by
 obtain⟨v,ch,ho,rfl,hlk,hk⟩:=hb
 refine Spec.eG [[cr p 374 [v,iN k]],ch] func214 ntmps214 fun w0=>?_
 refine CW.go up 9 rfl (LW.pn underlying330 ?_)
 refine LW.go up 10 rfl (LW.ld one37 ?_)
 refine LW.cG (hcl W B ch v l.length (hitsC l) ho.sl (hitsC_one l) (by omega)) cl270 ?_
 rintro r _ ⟨ch2,ho2,rfl⟩;refine LW.splitA ?_
 refine LW.go up 4 rfl ?_
 refine NW.r1 ⟨_,⟨ch2,ho2,rfl⟩,?_⟩
 exact .s3
theorem best_Of (k:Nat)(hs:List (Int×Int))(v:Value)(rows:List Row)(hv:SlAt W B rows v hs.length (hitsC hs) 2)(hm:hs.length<=100000)(hk:k<=100000) :
   Spec prog W B 141 [iN k,v] rows (fun r post=>∃ ch,OwnS 72 2 r (bestOf k hs).length (hitsC (bestOf k hs)) ch/\post=ch++rows):=by
 obtain⟨A,cp,rfl,hcp,hl,hsrc,hA⟩:=hv
 refine Spec.eG [rows] func141 ntmps141 fun w0=>?_
 refine CW.go up 8 rfl (LW.cT (best_New W B k hk) cl212 (Take.none _) ?_)
 rintro _ post ⟨p,rfl,hb⟩
 refine LW.go up 12 rfl ?_
 refine CW.loopG (fun st:Nat×List (Int×Int)×List Row=>[(12,iN st.1),(11,iN hs.length),(10,.slice A hs.length cp),(5,ptr p)]) (fun st=>[st.2.2,rows]) (fun st=>st.1<=hs.length/\BestR p k st.2.1 st.2.2/\(hs.drop st.1).foldl (putB k) st.2.1=bestOf k hs) (fun st=>hs.length-st.1) (0,[],post) (by exact⟨Nat.zero_le _,hb,rfl⟩) rfl (by repeat' constructor) ?_
 rintro⟨i,l,pr⟩ ⟨hi,hb,hx⟩;dsimp only at hi hb hx |-
 refine CW.go up 2 rfl (LW.lss (decide ((i:Int)<(hs.length:Int))) rfl rfl (rfl) rfl ?_)
 refine LW.go up 3 rfl ?_
 refine CW.cond rfl (fun hc13=>?_) (fun hc13=>?_)
 . have hin:i<hs.length:=oT hc13
   obtain⟨a,rfl⟩:∃ x,A=some x:=smA hA
   obtain⟨x,hxi,hxd⟩:=drop_at hin
   rw [hxd,List.foldl_cons] at hx
   refine CW.go up 6 rfl (LW.indexAt rfl rfl underlying37 ixs37 (by omega) (by omega) rfl ?_)
   refine LW.loadAggRd (hitC x) rfl (hsrc.rd .t) (Nat.zero_lt_succ 1) (hitsC_at hxi) underlying72 rfl szt72 rfl ?_
   refine LW.alloc zero72 rfl ?_
   intro ba7
   refine LW.sA (hitC x) szt72 (hitC_one x) ?_
   refine LW.go up 4 rfl (LW.lA (hitC x) underlying72 szt72 ?_)
   refine LW.cG (best_Put W B p k l x pr hb) cl213 ?_
   rintro _ post2 ⟨⟨b,rfl⟩,hb2⟩
   refine LW.go up 4 rfl (LW.ad ((i+1:Int)) ?_)
   exact LW.go up 2 rfl (NW.mG ((i+1,putB k l x,post2)) (by exact⟨⟨by omega,hb2,hx⟩,by dsimp only;omega⟩))
 . have hin:i=hs.length:=oF hc13
   rw [hin,List.drop_length,List.foldl_nil] at hx
   refine CW.go up 2 rfl (NW.then_exit (NW.go up 5 rfl (LW.cG (best_All W B p k l pr hb) cl214 ?_)))
   rintro r _ ⟨ch,ho,rfl⟩;refine LW.splitA ?_
   refine LW.go up 4 rfl ?_
   refine NW.ret1 rfl rfl ⟨_,⟨ch,by rw [<- hx];exact ho,rfl⟩,?_⟩
   exact .s2
end
end Go.Proofs.YtnlpccoigflheaaGreatDoor
