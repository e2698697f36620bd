/- TSl TMet BinLaw SlotDef -/
import Derived.Test.YtnlpccoigflheaaGreatDoorAgg
import Derived.Test.YtnlpccoigflheaaGreatDoorProg
import Derived.Test.YtnlpccoigflheaaGreatDoorBin1
import Derived.Test.YtnlpccoigflheaaGreatDoorFac
namespace Go.Proofs.YtnlpccoigflheaaGreatDoor
open Go.RowKit
open Go.Proofs.Tryz
def Tun:Tbl:=⟨[(72,0,0),(72,1,1)],[],[22,24,25,85]⟩
theorem un:Tun.Ok Tryz.prog:=.of (⟨⟨_,Tryz.underlying22⟩,⟨_,Tryz.underlying24⟩,⟨_,Tryz.underlying25⟩,⟨_,Tryz.underlying85⟩,trivial⟩)
def SlAt (W:World)(B:Nat)(rows:List Row)(v:Value)(m:Nat)(xs:List Value)(sz:Nat):Prop:=
 ∃ A cp,v=.slice A m cp/\m<=cp/\xs.length=m*sz/\Src W B rows A xs/\(A=none->m=0)
theorem Src.more' {W:World}{B:Nat}{r r':List Row}{A:Option Addr}{xs:List Value}(k:Src W B r A xs)(h:∀ x∈r,x∈r'):Src W B r' A xs:=by
 rcases k with h1 | ⟨a,h1,h2 | ⟨b,o,t,l,h3,h4,h5⟩⟩
 . exact .inl h1
 . exact .inr ⟨a,h1,.inl h2⟩
 . exact .inr ⟨a,h1,.inr ⟨b,o,t,l,h3,h _ h4,h5⟩⟩
theorem SlAt.more {W:World}{B:Nat}{r r':List Row}{v:Value}{m sz:Nat}{xs:List Value}(k:SlAt W B r v m xs sz)(h:∀ x∈r,x∈r'):SlAt W B r' v m xs sz:=by
 obtain⟨A,cp,h1,h2,h3,h4,h5⟩:=k
 exact⟨A,cp,h1,h2,h3,h4.more' h,h5⟩
theorem SlAt.nil {W:World}{B:Nat}{rows:List Row}{sz:Nat}:SlAt W B rows (.slice none 0 0) 0 [] sz:=⟨none,0,rfl,Nat.le_refl _,by simp,.nil,fun _=>rfl⟩
theorem OwnS.sl {W:World}{B:Nat}{t:TypeId}{sz:Nat}{v:Value}{m:Nat}{xs:List Value}{ch:List Row}(o:OwnS t sz v m xs ch):SlAt W B ch v m xs sz:=by
 obtain⟨A,cp,rfl,hA,hc⟩:=o.val
 exact⟨A,cp,rfl,hc,o.len,o.src,hA⟩
theorem SlAt.one {W:World}{B:Nat}{rows:List Row}{v:Value}{m sz:Nat}{xs:List Value}(k:SlAt W B rows v m xs sz):v.oneCell'=true:=by
 obtain⟨A,cp,rfl,_⟩:=k
 rfl
def idxF {α:Type}(p:α->Bool):List α->Nat->Int
 | [],_=>-1
 | x::r,i=>if p x=true then (i:Int) else idxF p r (i+1)
theorem idxF_any {α:Type}(p:α->Bool):∀ (l:List α) (i:Nat),decide (idxF p l i>=0)=l.any p
 | [],_=>by simp [idxF]
 | x::r,i=>by
  have ih:=idxF_any p r (i+1)
  by_cases hp:p x=true
  . have h1:idxF p (x::r) i=(i:Int):=by simp [idxF,hp]
    rw [h1];simp [hp]
  . have h1:idxF p (x::r) i=idxF p r (i+1):=by simp [idxF,hp]
    rw [h1,ih];simp [hp]
theorem drop_at {α:Type}{xs:List α}{i:Nat}(h:i<xs.length):∃ x,xs[i]?=some x/\xs.drop i=x::xs.drop (i+1):=
 ⟨xs[i],by simp [h],by rw [List.drop_eq_getElem_cons h]⟩
section
variable (W:World)(B:Nat)
theorem cl_209 (rows:List Row)(v:Value)(m:Nat)(xs:List Value)(hs:SlAt W B rows v m xs 1)(h1:∀ u∈xs,u.oneCell'=true)(hm:m<=1000000) :
  Spec prog W B 209 [v] rows (fun r post=>∃ ch,OwnS 21 1 r m xs ch/\post=ch++rows):=by
 obtain⟨A,cp,rfl,hcp,hl,hsrc,hA⟩:=hs
 cases A with
 | none=>
  obtain rfl:=hA rfl
  obtain rfl:xs=[]:=List.eq_nil_of_length_eq_zero (by omega)
  refine Spec.eG [rows] func209 ntmps209 fun w0=>?_
  refine CW.go un 9 rfl (LW.sliceNil true rfl underlying25 rfl rfl ?_)
  refine LW.go un 10 rfl ?_
  refine NW.r1 ⟨_,⟨[],OwnS.nil,rfl⟩,?_⟩
  exact Sub.one .t
 | some a=>
  refine Spec.eG [rows] func209 ntmps209 fun w0=>?_
  refine CW.go un 9 rfl (LW.sliceNil false rfl underlying25 rfl rfl ?_)
  refine LW.go un 7 rfl (LW.slice0 underlying25 info21 rfl ?_)
  intro bs5
  refine LW.go un 1 rfl (LW.append (xs) rfl rfl underlying25 underlying25 (.inr ⟨_,rfl⟩) info21 rfl (OwnS.row (m:=0) (xs:=[]) rfl) .t (fun _=>lenOf_slice _ _ _ _) (first_rd (hsrc.rd .t) hl hA) (hl) (h1) (by omega) (by omega) rfl ?_)
  intro v' ch' ho'
  refine LW.go un 4 rfl ?_
  refine NW.ret1 rfl rfl ⟨_,⟨ch',by simpa using ho',rfl⟩,?_⟩
  exact .s2
theorem cl_174 (rows:List Row)(v:Value)(m:Nat)(xs:List Value)(hs:SlAt W B rows v m xs 1)(h1:∀ u∈xs,u.oneCell'=true)(hm:m<=1000000) :
  Spec prog W B 174 [v] rows (fun r post=>∃ ch,OwnS 3 1 r m xs ch/\post=ch++rows):=by
 obtain⟨A,cp,rfl,hcp,hl,hsrc,hA⟩:=hs
 cases A with
 | none=>
  obtain rfl:=hA rfl
  obtain rfl:xs=[]:=List.eq_nil_of_length_eq_zero (by omega)
  refine Spec.eG [rows] func174 ntmps174 fun w0=>?_
  refine CW.go un 9 rfl (LW.sliceNil true rfl underlying85 rfl rfl ?_)
  refine LW.go un 10 rfl ?_
  refine NW.r1 ⟨_,⟨[],OwnS.nil,rfl⟩,?_⟩
  exact Sub.one .t
 | some a=>
  refine Spec.eG [rows] func174 ntmps174 fun w0=>?_
  refine CW.go un 9 rfl (LW.sliceNil false rfl underlying85 rfl rfl ?_)
  refine LW.go un 7 rfl (LW.slice0 underlying85 info3 rfl ?_)
  intro bs5
  refine LW.go un 1 rfl (LW.append (xs) rfl rfl underlying85 underlying85 (.inr ⟨_,rfl⟩) info3 rfl (OwnS.row (m:=0) (xs:=[]) rfl) .t (fun _=>lenOf_slice _ _ _ _) (first_rd (hsrc.rd .t) hl hA) (hl) (h1) (by omega) (by omega) rfl ?_)
  intro v' ch' ho'
  refine LW.go un 4 rfl ?_
  refine NW.ret1 rfl rfl ⟨_,⟨ch',by simpa using ho',rfl⟩,?_⟩
  exact .s2
theorem cl_336 (rows:List Row)(v:Value)(m:Nat)(xs:List Value)(hs:SlAt W B rows v m xs 1)(h1:∀ u∈xs,u.oneCell'=true)(hm:m<=1000000) :
  Spec prog W B 336 [v] rows (fun r post=>∃ ch,OwnS 21 1 r m xs ch/\post=ch++rows):=by
 obtain⟨A,cp,rfl,hcp,hl,hsrc,hA⟩:=hs
 cases A with
 | none=>
  obtain rfl:=hA rfl
  obtain rfl:xs=[]:=List.eq_nil_of_length_eq_zero (by omega)
  refine Spec.eG [rows] func336 ntmps336 fun w0=>?_
  refine CW.go un 9 rfl (LW.sliceNil true rfl underlying24 rfl rfl ?_)
  refine LW.go un 10 rfl ?_
  refine NW.r1 ⟨_,⟨[],OwnS.nil,rfl⟩,?_⟩
  exact Sub.one .t
 | some a=>
  refine Spec.eG [rows] func336 ntmps336 fun w0=>?_
  refine CW.go un 9 rfl (LW.sliceNil false rfl underlying24 rfl rfl ?_)
  refine LW.go un 7 rfl (LW.slice0 underlying24 info21 rfl ?_)
  intro bs5
  refine LW.go un 1 rfl (LW.append (xs) rfl rfl underlying24 underlying24 (.inr ⟨_,rfl⟩) info21 rfl (OwnS.row (m:=0) (xs:=[]) rfl) .t (fun _=>lenOf_slice _ _ _ _) (first_rd (hsrc.rd .t) hl hA) (hl) (h1) (by omega) (by omega) rfl ?_)
  intro v' ch' ho'
  refine LW.go un 4 rfl ?_
  refine NW.ret1 rfl rfl ⟨_,⟨ch',by simpa using ho',rfl⟩,?_⟩
  exact .s2
theorem cl_286 (rows:List Row)(v:Value)(m:Nat)(xs:List Value)(hs:SlAt W B rows v m xs 1)(h1:∀ u∈xs,u.oneCell'=true)(hm:m<=1000000) :
  Spec prog W B 286 [v] rows (fun r post=>∃ ch,OwnS 25 1 r m xs ch/\post=ch++rows):=by
 obtain⟨A,cp,rfl,hcp,hl,hsrc,hA⟩:=hs
 cases A with
 | none=>
  obtain rfl:=hA rfl
  obtain rfl:xs=[]:=List.eq_nil_of_length_eq_zero (by omega)
  refine Spec.eG [rows] func286 ntmps286 fun w0=>?_
  refine CW.go un 9 rfl (LW.sliceNil true rfl underlying22 rfl rfl ?_)
  refine LW.go un 10 rfl ?_
  refine NW.r1 ⟨_,⟨[],OwnS.nil,rfl⟩,?_⟩
  exact Sub.one .t
 | some a=>
  refine Spec.eG [rows] func286 ntmps286 fun w0=>?_
  refine CW.go un 9 rfl (LW.sliceNil false rfl underlying22 rfl rfl ?_)
  refine LW.go un 7 rfl (LW.slice0 underlying22 info25 rfl ?_)
  intro bs5
  refine LW.go un 1 rfl (LW.append (xs) rfl rfl underlying22 underlying22 (.inr ⟨_,rfl⟩) info25 rfl (OwnS.row (m:=0) (xs:=[]) rfl) .t (fun _=>lenOf_slice _ _ _ _) (first_rd (hsrc.rd .t) hl hA) (hl) (h1) (by omega) (by omega) rfl ?_)
  intro v' ch' ho'
  refine LW.go un 4 rfl ?_
  refine NW.ret1 rfl rfl ⟨_,⟨ch',by simpa using ho',rfl⟩,?_⟩
  exact .s2
theorem ixf_210 {α:Type}(rows:List Row)(v:Value)(xs:List α)(enc:α->Value)(p:α->Bool)(f:Nat)(us:List Value)(hc:Callee prog f)(hs:SlAt W B rows v xs.length (xs.map enc) 1)(hm:xs.length<=1000000)
   (hf:∀ x∈xs,Spec prog W B f ([enc x]++us) rows (fun r post=>r=.bool (p x)/\post=rows)) :
   Spec prog W B 210 [v,.func (.func f) #[] us.toArray] rows (fun r post=>r=.int .i64 (idxF p xs 0)/\post=rows):=by
 obtain⟨A,cp,rfl,hcp,hl,hsrc,hA⟩:=hs
 refine Spec.eG [rows] func210 ntmps210 fun w0=>?_
 refine CW.go un 14 rfl ?_
 refine CW.loopG (fun i:Nat=>[(8,iN i),(7,iN xs.length),(0,.slice A xs.length cp),(1,.func (.func f) #[] us.toArray)]) (fun _=>[rows]) (fun i=>i<=xs.length/\idxF p xs 0=idxF p (xs.drop i) i) (fun i=>xs.length-i) 0 (by exact⟨Nat.zero_le _,rfl⟩) rfl (by repeat' constructor) ?_
 rintro i ⟨hi,hx⟩
 refine CW.go un 2 rfl (LW.lss (decide ((i:Int)<(xs.length:Int))) rfl rfl (rfl) rfl ?_)
 refine LW.go un 3 rfl ?_
 refine CW.cond rfl (fun hc9=>?_) (fun hc9=>?_)
 . have hin:i<xs.length:=oT hc9
   obtain⟨a,rfl⟩:∃ x,A=some x:=smA hA
   obtain⟨x,hxi,hxd⟩:=drop_at hin
   rw [hxd,idxF] at hx
   have hg:(xs.map enc)[((i:Nat):Int).toNat*1]?=some (enc x):=by rw [Int.toNat_natCast,Nat.mul_one,List.getElem?_map,hxi];rfl
   refine CW.go un 15 rfl (LW.indexAt rfl rfl underlying25 ixs25 (by omega) (by omega) rfl ?_)
   refine LW.loadRd (v:=enc x) rfl (hsrc.rd .t) (hg) one21 rfl ?_
   refine LW.callFn (args:=[enc x]) (us:=us) rfl (hf x (List.mem_of_getElem? hxi)) hc ⟨rfl,trivial⟩ .t rfl ?_
   rintro _ _ ⟨rfl,rfl⟩
   refine LW.go un 2 rfl ?_
   refine CW.cond rfl (fun hc16=>?_) (fun hc16=>?_)
   . rw [if_pos hc16] at hx
     refine CW.go un 9 rfl (NW.then_ret ?_)
     refine NW.go un 2 rfl ?_
     refine NW.ret1 rfl rfl ⟨_,⟨by rw [hx],rfl⟩,?_⟩
     exact Sub.one .t
   . rw [if_neg (by rw [hc16];decide)] at hx
     refine CW.go un 4 rfl (LW.ad ((i+1:Int)) ?_)
     exact LW.go un 2 rfl (NW.mG (i+1) (by exact⟨⟨hin,hx⟩,by omega⟩))
 . have hin:i=xs.length:=oF hc9
   rw [hin,List.drop_length] at hx
   refine CW.go un 2 rfl (NW.then_exit (NW.go un 8 rfl ?_))
   refine NW.ret1 rfl rfl ⟨_,⟨by rw [hx];rfl,rfl⟩,?_⟩
   exact Sub.one .t
theorem ixf_222 {α:Type}(rows:List Row)(v:Value)(xs:List α)(enc:α->Value)(p:α->Bool)(f:Nat)(us:List Value)(hc:Callee prog f)(hs:SlAt W B rows v xs.length (xs.map enc) 1)(hm:xs.length<=1000000)
   (hf:∀ x∈xs,Spec prog W B f ([enc x]++us) rows (fun r post=>r=.bool (p x)/\post=rows)) :
   Spec prog W B 222 [v,.func (.func f) #[] us.toArray] rows (fun r post=>r=.int .i64 (idxF p xs 0)/\post=rows):=by
 obtain⟨A,cp,rfl,hcp,hl,hsrc,hA⟩:=hs
 refine Spec.eG [rows] func222 ntmps222 fun w0=>?_
 refine CW.go un 14 rfl ?_
 refine CW.loopG (fun i:Nat=>[(8,iN i),(7,iN xs.length),(0,.slice A xs.length cp),(1,.func (.func f) #[] us.toArray)]) (fun _=>[rows]) (fun i=>i<=xs.length/\idxF p xs 0=idxF p (xs.drop i) i) (fun i=>xs.length-i) 0 (by exact⟨Nat.zero_le _,rfl⟩) rfl (by repeat' constructor) ?_
 rintro i ⟨hi,hx⟩
 refine CW.go un 2 rfl (LW.lss (decide ((i:Int)<(xs.length:Int))) rfl rfl (rfl) rfl ?_)
 refine LW.go un 3 rfl ?_
 refine CW.cond rfl (fun hc9=>?_) (fun hc9=>?_)
 . have hin:i<xs.length:=oT hc9
   obtain⟨a,rfl⟩:∃ x,A=some x:=smA hA
   obtain⟨x,hxi,hxd⟩:=drop_at hin
   rw [hxd,idxF] at hx
   have hg:(xs.map enc)[((i:Nat):Int).toNat*1]?=some (enc x):=by rw [Int.toNat_natCast,Nat.mul_one,List.getElem?_map,hxi];rfl
   refine CW.go un 15 rfl (LW.indexAt rfl rfl underlying85 ixs85 (by omega) (by omega) rfl ?_)
   refine LW.loadRd (v:=enc x) rfl (hsrc.rd .t) (hg) one3 rfl ?_
   refine LW.callFn (args:=[enc x]) (us:=us) rfl (hf x (List.mem_of_getElem? hxi)) hc ⟨rfl,trivial⟩ .t rfl ?_
   rintro _ _ ⟨rfl,rfl⟩
   refine LW.go un 2 rfl ?_
   refine CW.cond rfl (fun hc16=>?_) (fun hc16=>?_)
   . rw [if_pos hc16] at hx
     refine CW.go un 9 rfl (NW.then_ret ?_)
     refine NW.go un 2 rfl ?_
     refine NW.ret1 rfl rfl ⟨_,⟨by rw [hx],rfl⟩,?_⟩
     exact Sub.one .t
   . rw [if_neg (by rw [hc16];decide)] at hx
     refine CW.go un 4 rfl (LW.ad ((i+1:Int)) ?_)
     exact LW.go un 2 rfl (NW.mG (i+1) (by exact⟨⟨hin,hx⟩,by omega⟩))
 . have hin:i=xs.length:=oF hc9
   rw [hin,List.drop_length] at hx
   refine CW.go un 2 rfl (NW.then_exit (NW.go un 8 rfl ?_))
   refine NW.ret1 rfl rfl ⟨_,⟨by rw [hx];rfl,rfl⟩,?_⟩
   exact Sub.one .t
theorem ixf_325 {α:Type}(rows:List Row)(v:Value)(xs:List α)(enc:α->Value)(p:α->Bool)(f:Nat)(us:List Value)(hc:Callee prog f)(hs:SlAt W B rows v xs.length (xs.map enc) 1)(hm:xs.length<=1000000)
   (hf:∀ x∈xs,Spec prog W B f ([enc x]++us) rows (fun r post=>r=.bool (p x)/\post=rows)) :
   Spec prog W B 325 [v,.func (.func f) #[] us.toArray] rows (fun r post=>r=.int .i64 (idxF p xs 0)/\post=rows):=by
 obtain⟨A,cp,rfl,hcp,hl,hsrc,hA⟩:=hs
 refine Spec.eG [rows] func325 ntmps325 fun w0=>?_
 refine CW.go un 14 rfl ?_
 refine CW.loopG (fun i:Nat=>[(8,iN i),(7,iN xs.length),(0,.slice A xs.length cp),(1,.func (.func f) #[] us.toArray)]) (fun _=>[rows]) (fun i=>i<=xs.length/\idxF p xs 0=idxF p (xs.drop i) i) (fun i=>xs.length-i) 0 (by exact⟨Nat.zero_le _,rfl⟩) rfl (by repeat' constructor) ?_
 rintro i ⟨hi,hx⟩
 refine CW.go un 2 rfl (LW.lss (decide ((i:Int)<(xs.length:Int))) rfl rfl (rfl) rfl ?_)
 refine LW.go un 3 rfl ?_
 refine CW.cond rfl (fun hc9=>?_) (fun hc9=>?_)
 . have hin:i<xs.length:=oT hc9
   obtain⟨a,rfl⟩:∃ x,A=some x:=smA hA
   obtain⟨x,hxi,hxd⟩:=drop_at hin
   rw [hxd,idxF] at hx
   have hg:(xs.map enc)[((i:Nat):Int).toNat*1]?=some (enc x):=by rw [Int.toNat_natCast,Nat.mul_one,List.getElem?_map,hxi];rfl
   refine CW.go un 15 rfl (LW.indexAt rfl rfl underlying24 ixs24 (by omega) (by omega) rfl ?_)
   refine LW.loadRd (v:=enc x) rfl (hsrc.rd .t) (hg) one21 rfl ?_
   refine LW.callFn (args:=[enc x]) (us:=us) rfl (hf x (List.mem_of_getElem? hxi)) hc ⟨rfl,trivial⟩ .t rfl ?_
   rintro _ _ ⟨rfl,rfl⟩
   refine LW.go un 2 rfl ?_
   refine CW.cond rfl (fun hc16=>?_) (fun hc16=>?_)
   . rw [if_pos hc16] at hx
     refine CW.go un 9 rfl (NW.then_ret ?_)
     refine NW.go un 2 rfl ?_
     refine NW.ret1 rfl rfl ⟨_,⟨by rw [hx],rfl⟩,?_⟩
     exact Sub.one .t
   . rw [if_neg (by rw [hc16];decide)] at hx
     refine CW.go un 4 rfl (LW.ad ((i+1:Int)) ?_)
     exact LW.go un 2 rfl (NW.mG (i+1) (by exact⟨⟨hin,hx⟩,by omega⟩))
 . have hin:i=xs.length:=oF hc9
   rw [hin,List.drop_length] at hx
   refine CW.go un 2 rfl (NW.then_exit (NW.go un 8 rfl ?_))
   refine NW.ret1 rfl rfl ⟨_,⟨by rw [hx];rfl,rfl⟩,?_⟩
   exact Sub.one .t
theorem ixf_334 {α:Type}(rows:List Row)(v:Value)(xs:List α)(enc:α->Value)(p:α->Bool)(f:Nat)(us:List Value)(hc:Callee prog f)(hs:SlAt W B rows v xs.length (xs.map enc) 1)(hm:xs.length<=1000000)
   (hf:∀ x∈xs,Spec prog W B f ([enc x]++us) rows (fun r post=>r=.bool (p x)/\post=rows)) :
   Spec prog W B 334 [v,.func (.func f) #[] us.toArray] rows (fun r post=>r=.int .i64 (idxF p xs 0)/\post=rows):=by
 obtain⟨A,cp,rfl,hcp,hl,hsrc,hA⟩:=hs
 refine Spec.eG [rows] func334 ntmps334 fun w0=>?_
 refine CW.go un 14 rfl ?_
 refine CW.loopG (fun i:Nat=>[(8,iN i),(7,iN xs.length),(0,.slice A xs.length cp),(1,.func (.func f) #[] us.toArray)]) (fun _=>[rows]) (fun i=>i<=xs.length/\idxF p xs 0=idxF p (xs.drop i) i) (fun i=>xs.length-i) 0 (by exact⟨Nat.zero_le _,rfl⟩) rfl (by repeat' constructor) ?_
 rintro i ⟨hi,hx⟩
 refine CW.go un 2 rfl (LW.lss (decide ((i:Int)<(xs.length:Int))) rfl rfl (rfl) rfl ?_)
 refine LW.go un 3 rfl ?_
 refine CW.cond rfl (fun hc9=>?_) (fun hc9=>?_)
 . have hin:i<xs.length:=oT hc9
   obtain⟨a,rfl⟩:∃ x,A=some x:=smA hA
   obtain⟨x,hxi,hxd⟩:=drop_at hin
   rw [hxd,idxF] at hx
   have hg:(xs.map enc)[((i:Nat):Int).toNat*1]?=some (enc x):=by rw [Int.toNat_natCast,Nat.mul_one,List.getElem?_map,hxi];rfl
   refine CW.go un 15 rfl (LW.indexAt rfl rfl underlying22 ixs22 (by omega) (by omega) rfl ?_)
   refine LW.loadRd (v:=enc x) rfl (hsrc.rd .t) (hg) one25 rfl ?_
   refine LW.callFn (args:=[enc x]) (us:=us) rfl (hf x (List.mem_of_getElem? hxi)) hc ⟨rfl,trivial⟩ .t rfl ?_
   rintro _ _ ⟨rfl,rfl⟩
   refine LW.go un 2 rfl ?_
   refine CW.cond rfl (fun hc16=>?_) (fun hc16=>?_)
   . rw [if_pos hc16] at hx
     refine CW.go un 9 rfl (NW.then_ret ?_)
     refine NW.go un 2 rfl ?_
     refine NW.ret1 rfl rfl ⟨_,⟨by rw [hx],rfl⟩,?_⟩
     exact Sub.one .t
   . rw [if_neg (by rw [hc16];decide)] at hx
     refine CW.go un 4 rfl (LW.ad ((i+1:Int)) ?_)
     exact LW.go un 2 rfl (NW.mG (i+1) (by exact⟨⟨hin,hx⟩,by omega⟩))
 . have hin:i=xs.length:=oF hc9
   rw [hin,List.drop_length] at hx
   refine CW.go un 2 rfl (NW.then_exit (NW.go un 8 rfl ?_))
   refine NW.ret1 rfl rfl ⟨_,⟨by rw [hx];rfl,rfl⟩,?_⟩
   exact Sub.one .t
theorem ctf_137 {α:Type}(rows:List Row)(v:Value)(xs:List α)(enc:α->Value)(p:α->Bool)(f:Nat)(us:List Value)(hc:Callee prog f)(hs:SlAt W B rows v xs.length (xs.map enc) 1)(hm:xs.length<=1000000)
  (hf:∀ x∈xs,Spec prog W B f ([enc x]++us) rows (fun r post=>r=.bool (p x)/\post=rows)) :
  Spec prog W B 137 [v,.func (.func f) #[] us.toArray] rows (fun r post=>r=.bool (xs.any p)/\post=rows):=by
 refine Spec.eG [rows] func137 ntmps137 fun w0=>?_
 refine CW.go un 9 rfl (LW.eG (ixf_210 W B rows v xs enc p f us hc hs hm hf) cl210 ?_)
 refine LW.geq (xs.any p) rfl rfl (idxF_any p xs 0) rfl ?_
 refine LW.go un 4 rfl ?_
 refine NW.r1 ⟨_,⟨rfl,rfl⟩,?_⟩
 exact Sub.one .t
theorem ctf_276 {α:Type}(rows:List Row)(v:Value)(xs:List α)(enc:α->Value)(p:α->Bool)(f:Nat)(us:List Value)(hc:Callee prog f)(hs:SlAt W B rows v xs.length (xs.map enc) 1)(hm:xs.length<=1000000)
  (hf:∀ x∈xs,Spec prog W B f ([enc x]++us) rows (fun r post=>r=.bool (p x)/\post=rows)) :
  Spec prog W B 276 [v,.func (.func f) #[] us.toArray] rows (fun r post=>r=.bool (xs.any p)/\post=rows):=by
 refine Spec.eG [rows] func276 ntmps276 fun w0=>?_
 refine CW.go un 9 rfl (LW.eG (ixf_325 W B rows v xs enc p f us hc hs hm hf) cl325 ?_)
 refine LW.geq (xs.any p) rfl rfl (idxF_any p xs 0) rfl ?_
 refine LW.go un 4 rfl ?_
 refine NW.r1 ⟨_,⟨rfl,rfl⟩,?_⟩
 exact Sub.one .t
theorem ctf_281 {α:Type}(rows:List Row)(v:Value)(xs:List α)(enc:α->Value)(p:α->Bool)(f:Nat)(us:List Value)(hc:Callee prog f)(hs:SlAt W B rows v xs.length (xs.map enc) 1)(hm:xs.length<=1000000)
  (hf:∀ x∈xs,Spec prog W B f ([enc x]++us) rows (fun r post=>r=.bool (p x)/\post=rows)) :
  Spec prog W B 281 [v,.func (.func f) #[] us.toArray] rows (fun r post=>r=.bool (xs.any p)/\post=rows):=by
 refine Spec.eG [rows] func281 ntmps281 fun w0=>?_
 refine CW.go un 9 rfl (LW.eG (ixf_334 W B rows v xs enc p f us hc hs hm hf) cl334 ?_)
 refine LW.geq (xs.any p) rfl rfl (idxF_any p xs 0) rfl ?_
 refine LW.go un 4 rfl ?_
 refine NW.r1 ⟨_,⟨rfl,rfl⟩,?_⟩
 exact Sub.one .t
def i32v (n:Int):Value:=.int .i32 n
def VecAt (W:World)(B:Nat)(rows:List Row)(v:Value)(xs:List Int):Prop:=SlAt W B rows v xs.length (xs.map i32v) 1
theorem i32v_one (xs:List Int):∀ u∈xs.map i32v,u.oneCell'=true:=by
 intro u hu
 obtain⟨y,_,rfl⟩:=List.mem_map.1 hu
 rfl
theorem vect_Copy (rows:List Row)(v:Value)(xs:List Int)(hs:VecAt W B rows v xs)(hm:xs.length<=1000000) :
  Spec prog W B 136 [v] rows (fun r post=>∃ ch,OwnS 21 1 r xs.length (xs.map i32v) ch/\post=ch++rows):=by
 refine Spec.eG [rows] func136 ntmps136 fun w0=>?_
 refine CW.go un 8 rfl (LW.cG (cl_209 W B rows v xs.length (xs.map i32v) hs (i32v_one xs) hm) cl209 ?_)
 rintro r _ ⟨ch,ho,rfl⟩
 refine LW.go un 4 rfl ?_
 refine NW.r1 ⟨_,⟨ch,ho,rfl⟩,?_⟩
 exact Sub.one .t
def coordOk (x:Int):Bool:=!(decide (x < -1048576) || decide (x>1048576))
theorem vect_May1 (x:Int)(rows:List Row):Spec prog W B 138 [i32v x] rows (fun r post=>r=.bool (!coordOk x)/\post=rows):=by
 by_cases h1:x < -1048576
 . have hc:coordOk x=false:=by simp [coordOk,h1]
   rw [hc]
   refine Spec.eG [rows] func138 ntmps138 fun w0=>?_
   refine CW.go un 8 rfl (LW.lssT ?_)
   refine LW.go un 8 rfl ?_
   refine NW.r1 ⟨_,⟨rfl,rfl⟩,?_⟩
   exact Sub.one .t
 . by_cases h2:x>1048576
   . have hc:coordOk x=false:=by simp [coordOk,h2]
     rw [hc]
     refine Spec.eG [rows] func138 ntmps138 fun w0=>?_
     refine CW.go un 8 rfl (LW.lssF ?_)
     refine LW.go un 4 rfl (LW.gtrT ?_)
     refine LW.go un 5 rfl ?_
     refine NW.r1 ⟨_,⟨rfl,rfl⟩,?_⟩
     exact Sub.one .t
   . have hc:coordOk x=true:=by simp [coordOk,h1,h2]
     rw [hc]
     refine Spec.eG [rows] func138 ntmps138 fun w0=>?_
     refine CW.go un 8 rfl (LW.lssF ?_)
     refine LW.go un 4 rfl (LW.gtrF ?_)
     refine LW.go un 5 rfl ?_
     refine NW.r1 ⟨_,⟨rfl,rfl⟩,?_⟩
     exact Sub.one .t
def mayV (xs:List Int)(dim:Int):Bool:=if dim<1\/dim>8\/(xs.length:Int)≠dim then false else xs.all coordOk
theorem cl_May1:Callee prog 138:=⟨_,_,func138,rfl,by kernel_rfl⟩
theorem vect_May (rows:List Row)(v:Value)(xs:List Int)(dim:Int)(hs:VecAt W B rows v xs)(hm:xs.length<=1000000) :
   Spec prog W B 74 [v,.int .i64 dim] rows (fun r post=>r=.bool (mayV xs dim)/\post=rows):=by
 have hs':=hs
 obtain⟨A,cp,rfl,_⟩:=hs'
 by_cases h1:dim<1
 . have hc:mayV xs dim=false:=by simp [mayV,h1]
   rw [hc]
   refine Spec.eG [rows] func74 ntmps74 fun w0=>?_
   refine CW.go un 9 rfl (LW.lssT ?_)
   refine LW.go un 20 rfl ?_
   refine NW.r1 ⟨_,⟨rfl,rfl⟩,?_⟩
   exact Sub.one .t
 . by_cases h2:dim>8
   . have hc:mayV xs dim=false:=by simp [mayV,h2]
     rw [hc]
     refine Spec.eG [rows] func74 ntmps74 fun w0=>?_
     refine CW.go un 9 rfl (LW.lssF ?_)
     refine LW.go un 4 rfl (LW.gtrT ?_)
     refine LW.go un 17 rfl ?_
     refine NW.r1 ⟨_,⟨rfl,rfl⟩,?_⟩
     exact Sub.one .t
   . by_cases h3:(xs.length:Int)≠dim
     . have hc:mayV xs dim=false:=by unfold mayV;rw [if_pos (.inr (.inr h3))]
       rw [hc]
       refine Spec.eG [rows] func74 ntmps74 fun w0=>?_
       refine CW.go un 9 rfl (LW.lssF ?_)
       refine LW.go un 4 rfl (LW.gtrF ?_)
       refine LW.go un 9 rfl (LW.neqT ?_)
       refine LW.go un 11 rfl ?_
       refine NW.r1 ⟨_,⟨rfl,rfl⟩,?_⟩
       exact Sub.one .t
     . have hc:mayV xs dim=!(xs.any fun x=>!coordOk x):=by unfold mayV;rw [if_neg (by omega)];simp [List.any_eq_not_all_not]
       rw [hc]
       refine Spec.eG [rows] func74 ntmps74 fun w0=>?_
       refine CW.go un 9 rfl (LW.lssF ?_)
       refine LW.go un 4 rfl (LW.gtrF ?_)
       refine LW.go un 9 rfl (LW.neqF ?_)
       refine LW.go un 9 rfl (LW.eG (ctf_137 W B rows _ xs i32v (fun x=>!coordOk x) 138 [] cl_May1 hs hm (fun x _=>vect_May1 W B x rows)) cl137 ?_)
       refine LW.go un 5 rfl ?_
       refine NW.r1 ⟨_,⟨rfl,rfl⟩,?_⟩
       exact Sub.one .t
end
open Go.RowKit
def InB (x:Int):Prop:=-1048576<=x/\x<=1048576
def sc (m x y:Int):Int:=if m=1 then (x-y)*(x-y) else if m=2 then -(x*y) else 0
def scoreL (m:Int):List Int->List Int->Int
 | x::a,y::b=>sc m x y+scoreL m a b
 | _,_=>0
theorem sqb {d:Int}(h1:-2097152<=d)(h2:d<=2097152):0<=d*d/\d*d<=4398046511104:=by
 have h:=Int.mul_nonneg (show 0<=2097152-d by omega) (show 0<=2097152+d by omega)
 simp only [Int.sub_mul,Int.mul_add] at h
 have h0:0<=d*d:=by
  rcases Int.le_total 0 d with hd | hd
  . exact Int.mul_nonneg hd hd
  . have:=Int.mul_nonneg (show 0<=-d by omega) (show 0<=-d by omega)
    rwa [Int.neg_mul_neg] at this
 generalize d*d=q at h h0
 omega
theorem mulb {x y:Int}(hx:InB x)(hy:InB y):-1099511627776<=x*y/\x*y<=1099511627776:=by
 obtain⟨x1,x2⟩:=hx
 obtain⟨y1,y2⟩:=hy
 have h1:=Int.mul_nonneg (show 0<=1048576-x by omega) (show 0<=1048576+y by omega)
 have h2:=Int.mul_nonneg (show 0<=1048576+x by omega) (show 0<=1048576-y by omega)
 have h3:=Int.mul_nonneg (show 0<=1048576+x by omega) (show 0<=1048576+y by omega)
 have h4:=Int.mul_nonneg (show 0<=1048576-x by omega) (show 0<=1048576-y by omega)
 simp only [Int.sub_mul,Int.add_mul,Int.mul_add,Int.mul_sub] at h1 h2 h3 h4
 generalize x*y=q at h1 h2 h3 h4 |-
 omega
theorem scoreL_drop (m:Int){a b:List Int}{i:Nat}(h:min a.length b.length<=i):scoreL m (a.drop i) (b.drop i)=0:=by
 rcases Nat.le_total a.length b.length with hl | hl
 . rw [List.drop_eq_nil_of_le (by omega)];rfl
 . rw [List.drop_eq_nil_of_le (show b.length<=i by omega)]
   cases a.drop i<;>rfl
def lessH (a b:Int×Int):Bool:=if a.2≠b.2 then decide (a.2<b.2) else decide (a.1<b.1)
def hitC (x:Int×Int):List Value:=[.int .i64 x.1,.int .i64 x.2]
def hitV (x:Int×Int):Value:=.agg (hitC x).toArray
section
variable (W:World)(B:Nat)
theorem slices_EqualV (rows:List Row)(v u:Value)(a b:List Int)(ha:VecAt W B rows v a)(hb:VecAt W B rows u b)(hm:a.length<=1000000) :
   Spec prog W B 134 [v,u] rows (fun r post=>r=.bool (decide (a=b))/\post=rows):=by
 obtain⟨A,cp,rfl,hcp,hl,hsrc,hA⟩:=ha
 obtain⟨A2,cp2,rfl,hcp2,hl2,hsrc2,hA2⟩:=hb
 by_cases hlen:a.length=b.length
 ·
   refine Spec.eG [rows] func134 ntmps134 fun w0=>?_
   refine CW.go un 12 rfl (LW.neqF ?_)
   refine LW.go un 14 rfl ?_
   refine CW.loopG (fun i:Nat=>[(13,iN i),(12,iN a.length),(0,.slice A a.length cp),(1,.slice A2 b.length cp2)]) (fun _=>[rows]) (fun i=>i<=a.length/\a.take i=b.take i) (fun i=>a.length-i) 0 (by exact⟨Nat.zero_le _,rfl⟩) rfl (by repeat' constructor) ?_
   rintro i ⟨hi,hx⟩
   refine CW.go un 2 rfl (LW.lss (decide ((i:Int)<(a.length:Int))) rfl rfl (rfl) rfl ?_)
   refine LW.go un 3 rfl ?_
   refine CW.cond rfl (fun hc14=>?_) (fun hc14=>?_)
   . have hin:i<a.length:=oT hc14
     obtain⟨a1,rfl⟩:∃ x,A=some x:=smA hA
     obtain⟨a2,rfl⟩:∃ x,A2=some x:=smA hA2
     obtain⟨x,hxi,hxd⟩:=drop_at hin
     obtain⟨y,hyi,hyd⟩:=drop_at (show i<b.length by omega)
     have hg:(a.map i32v)[((i:Nat):Int).toNat*1]?=some (.int .i32 x):=by rw [Int.toNat_natCast,Nat.mul_one,List.getElem?_map,hxi];rfl
     have hg2:(b.map i32v)[((i:Nat):Int).toNat*1]?=some (.int .i32 y):=by rw [Int.toNat_natCast,Nat.mul_one,List.getElem?_map,hyi];rfl
     refine CW.go un 11 rfl (CW.quiet mixed (by kernel_rfl) ?_)
     refine QW.mv ?_
     refine QW.mv ?_
     refine QW.step (Yl.indexAt rfl rfl underlying25 ixs25 (by omega) (by omega)) rfl ?_
     refine QW.step (Yl.loadRd (v:=.int .i32 x) rfl (hsrc.rd .t) (hg) one21) rfl ?_
     refine QW.mv ?_
     refine QW.mv ?_
     refine QW.step (Yl.indexAt rfl rfl underlying25 ixs25 (by omega) (by omega)) rfl ?_
     refine QW.step (Yl.loadRd (v:=.int .i32 y) rfl (hsrc2.rd .t) (hg2) one21) rfl ?_
     refine QW.step (Yl.neq (x != y) rfl rfl (rfl)) rfl ?_
     refine QW.nil ?_
     refine NW.go un 1 rfl ?_
     refine CW.cond rfl (fun hc24=>?_) (fun hc24=>?_)
     . have hne:a≠b:=fun hh=>by rw [hh] at hxi;rw [hxi] at hyi;have:=Option.some.inj hyi;simp [this] at hc24
       refine CW.go un 8 rfl (NW.then_ret ?_)
       refine NW.go un 2 rfl ?_
       refine NW.ret1 rfl rfl ⟨_,⟨by rw [decide_eq_false hne],rfl⟩,?_⟩
       exact Sub.one .t
     . have hxy:x=y:=by simpa using hc24
       refine CW.go un 4 rfl (LW.ad ((i+1:Int)) ?_)
       exact LW.go un 2 rfl (NW.mG (i+1) (by exact⟨⟨hin,by rw [List.take_add_one,List.take_add_one,hx,hxi,hyi,hxy]⟩,by omega⟩))
   . have hin:i=a.length:=oF hc14
     have hab:a=b:=by rw [hin,List.take_length,hlen,List.take_length] at hx;exact hx
     refine CW.go un 2 rfl (NW.then_exit (NW.go un 8 rfl ?_))
     refine NW.ret1 rfl rfl ⟨_,⟨by rw [decide_eq_true hab],rfl⟩,?_⟩
     exact Sub.one .t
 . have hne:a≠b:=fun hh=>hlen (by rw [hh])
   refine Spec.eG [rows] func134 ntmps134 fun w0=>?_
   refine CW.go un 12 rfl (LW.neqT ?_)
   refine LW.go un 10 rfl ?_
   refine NW.ret1 rfl rfl ⟨_,⟨by rw [decide_eq_false hne],rfl⟩,?_⟩
   exact Sub.one .t
theorem vect_Eq (rows:List Row)(v u:Value)(a b:List Int)(ha:VecAt W B rows v a)(hb:VecAt W B rows u b)(hm:a.length<=1000000) :
  Spec prog W B 70 [v,u] rows (fun r post=>r=.bool (decide (a=b))/\post=rows):=by
 refine Spec.eG [rows] func70 ntmps70 fun w0=>?_
 refine CW.go un 9 rfl (LW.eG (slices_EqualV W B rows v u a b ha hb hm) cl134 ?_)
 refine LW.go un 4 rfl ?_
 refine NW.r1 ⟨_,⟨rfl,rfl⟩,?_⟩
 exact Sub.one .t
theorem metric_Known (m:Int):Spec prog W B 153 [.int .i64 m] [] (fun r post=>r=.bool (decide (m=1) || decide (m=2))/\post=[]):=by
 by_cases h1:m=1
 . subst h1
   refine Spec.eG [] func153 ntmps153 fun w0=>?_
   refine CW.go un 8 rfl (LW.eql true rfl rfl (rfl) rfl ?_)
   refine LW.go un 8 rfl ?_
   refine NW.r1 ⟨_,⟨rfl,rfl⟩,?_⟩
   exact Sub.nil _
 . by_cases h2:m=2
   . subst h2
     refine Spec.eG [] func153 ntmps153 fun w0=>?_
     refine CW.go un 8 rfl (LW.eql false rfl rfl (rfl) rfl ?_)
     refine LW.go un 4 rfl (LW.eql true rfl rfl (rfl) rfl ?_)
     refine LW.go un 5 rfl ?_
     refine NW.r1 ⟨_,⟨rfl,rfl⟩,?_⟩
     exact Sub.nil _
   ·
     refine Spec.eG [] func153 ntmps153 fun w0=>?_
     refine CW.go un 8 rfl (LW.eqlF ?_)
     refine LW.go un 4 rfl (LW.eqlF ?_)
     refine LW.go un 5 rfl ?_
     refine NW.ret1 rfl rfl ⟨_,⟨by simp [h1,h2],rfl⟩,?_⟩
     exact Sub.nil _
theorem metric_Less (a b:Int×Int):Spec prog W B 217 [hitV a,hitV b] [] (fun r post=>r=.bool (lessH a b)/\post=[]):=by
 by_cases h:a.2=b.2
 . have hl:lessH a b=decide (a.1<b.1):=by simp [lessH,h]
   rw [hl]
   refine Spec.eG [] func217 ntmps217 fun w0=>?_
   refine CW.go un 2 rfl (LW.bx ?_)
   intro bb2
   refine LW.bx ?_
   intro bb3
   refine LW.go un 7 rfl (LW.ld one2 ?_)
   refine LW.go un 1 rfl (LW.ld one2 ?_)
   refine LW.neqF ?_
   refine LW.go un 8 rfl (LW.ld one3 ?_)
   refine LW.go un 1 rfl (LW.ld one3 ?_)
   refine LW.lss (decide (a.1<b.1)) rfl rfl (rfl) rfl ?_
   refine LW.go un 4 rfl ?_
   refine NW.r1 ⟨_,⟨rfl,rfl⟩,?_⟩
   exact Sub.nil _
 . have hl:lessH a b=decide (a.2<b.2):=by simp [lessH,h]
   rw [hl]
   refine Spec.eG [] func217 ntmps217 fun w0=>?_
   refine CW.go un 2 rfl (LW.bx ?_)
   intro bb2
   refine LW.bx ?_
   intro bb3
   refine LW.go un 7 rfl (LW.ld one2 ?_)
   refine LW.go un 1 rfl (LW.ld one2 ?_)
   refine LW.neqT ?_
   refine LW.go un 6 rfl (LW.ld one2 ?_)
   refine LW.go un 1 rfl (LW.ld one2 ?_)
   refine LW.lss (decide (a.2<b.2)) rfl rfl (rfl) rfl ?_
   refine LW.go un 5 rfl ?_
   refine NW.r1 ⟨_,⟨rfl,rfl⟩,?_⟩
   exact Sub.nil _
theorem metric_Score (m:Int)(rows:List Row)(v u:Value)(a b:List Int)(ha:VecAt W B rows v a)(hb:VecAt W B rows u b)(hm:a.length<=1000)(h1:∀ x∈a,InB x)(h2:∀ x∈b,InB x) :
   Spec prog W B 140 [.int .i64 m,v,u] rows (fun r post=>r=.int .i64 (scoreL m a b)/\post=rows):=by
 obtain⟨A,cp,rfl,hcp,hl,hsrc,hA⟩:=ha
 obtain⟨A2,cp2,rfl,hcp2,hl2,hsrc2,hA2⟩:=hb
 refine Spec.eG [rows] func140 ntmps140 fun w0=>?_
 refine CW.go un 17 rfl (LW.min2 (((min a.length b.length:Nat):Int)) rfl rfl (by split<;>omega) rfl ?_)
 refine LW.go un 4 rfl ?_
 refine CW.loopG (fun st:Nat×Int=>[(16,iN st.1),(15,.int .i64 ((min a.length b.length:Nat):Int)),(7,.int .i64 st.2),(0,.int .i64 m),(1,.slice A a.length cp),(2,.slice A2 b.length cp2)]) (fun _=>[rows]) (fun st=>st.1<=min a.length b.length/\st.2+scoreL m (a.drop st.1) (b.drop st.1)=scoreL m a b/\-(4398046511104*st.1)<=st.2/\st.2<=4398046511104*st.1) (fun st=>a.length-st.1) (0,0) (by exact⟨Nat.zero_le _,by simp,by simp,by simp⟩) rfl (by repeat' constructor) ?_
 rintro⟨i,s⟩ ⟨hi,hs,hb1,hb2⟩;dsimp only at hi hs hb1 hb2
 refine CW.go un 2 rfl (LW.lss (decide ((i:Int)<((min a.length b.length:Nat):Int))) rfl rfl (rfl) rfl ?_)
 refine LW.go un 3 rfl ?_
 refine CW.cond rfl (fun hc17=>?_) (fun hc17=>?_)
 . have hin:i<min a.length b.length:=oT hc17
   obtain⟨a1,rfl⟩:∃ x,A=some x:=smA hA
   obtain⟨a2,rfl⟩:∃ x,A2=some x:=smA hA2
   obtain⟨x,hxi,hxd⟩:=drop_at (show i<a.length by omega)
   obtain⟨y,hyi,hyd⟩:=drop_at (show i<b.length by omega)
   have hg:(a.map i32v)[((i:Nat):Int).toNat*1]?=some (.int .i32 x):=by rw [Int.toNat_natCast,Nat.mul_one,List.getElem?_map,hxi];rfl
   have hg2:(b.map i32v)[((i:Nat):Int).toNat*1]?=some (.int .i32 y):=by rw [Int.toNat_natCast,Nat.mul_one,List.getElem?_map,hyi];rfl
   have hbx:=h1 x (List.mem_of_getElem? hxi)
   have hby:=h2 y (List.mem_of_getElem? hyi)
   have hmb:=mulb hbx hby
   unfold InB at hbx hby
   have hsq:=sqb (d:=x-y) (by omega) (by omega)
   rw [hxd,hyd,scoreL] at hs
   refine CW.go un 11 rfl (CW.quiet mixed (by kernel_rfl) ?_)
   refine QW.mv ?_
   refine QW.mv ?_
   refine QW.step (Yl.indexAt rfl rfl underlying25 ixs25 (by omega) (by omega)) rfl ?_
   refine QW.step (Yl.loadRd (v:=.int .i32 x) rfl (hsrc.rd .t) (hg) one21) rfl ?_
   refine QW.step (Yl.convInt (x) rfl underlying21 underlying2 (by exact wr64 rfl (by omega) (by omega))) rfl ?_
   refine QW.mv ?_
   refine QW.mv ?_
   refine QW.step (Yl.indexAt rfl rfl underlying25 ixs25 (by omega) (by omega)) rfl ?_
   refine QW.step (Yl.loadRd (v:=.int .i32 y) rfl (hsrc2.rd .t) (hg2) one21) rfl ?_
   refine QW.step (Yl.convInt (y) rfl underlying21 underlying2 (by exact wr64 rfl (by omega) (by omega))) rfl ?_
   refine QW.step (Yl.assign rfl) rfl ?_
   refine QW.step (Yl.assign rfl) rfl ?_
   refine QW.nil ?_
   refine NW.go un 3 rfl ?_
   by_cases hm1:m=1
   . refine LW.go un 6 rfl (LW.eqlT ?_)
     refine LW.go un 8 rfl (LW.sub (x-y) rfl rfl w6 rfl ?_)
     refine LW.go un 2 rfl (LW.sub (x-y) rfl rfl w6 rfl ?_)
     refine LW.mul ((x-y)*(x-y)) rfl rfl w6 rfl ?_
     refine LW.ad (s+(x-y)*(x-y)) ?_
     refine LW.go un 6 rfl (LW.ad ((i+1:Int)) ?_)
     exact LW.go un 2 rfl (NW.mG ((i+1,s+(x-y)*(x-y))) (by exact⟨⟨by omega,by dsimp only;rw [<- hs,sc,if_pos hm1];omega,by dsimp only;omega,by dsimp only;omega⟩,by dsimp only;omega⟩))
   . refine LW.go un 6 rfl (LW.eqlF ?_)
     refine LW.go un 6 rfl ?_
     by_cases hm2:m=2
     . refine LW.eqlT ?_
       refine LW.go un 8 rfl (LW.mul (x*y) rfl rfl w6 rfl ?_)
       refine LW.sub (s-x*y) rfl rfl w6 rfl ?_
       refine LW.go un 6 rfl (LW.ad ((i+1:Int)) ?_)
       exact LW.go un 2 rfl (NW.mG ((i+1,s-x*y)) (by exact⟨⟨by omega,by dsimp only;rw [<- hs,sc,if_neg hm1,if_pos hm2];omega,by dsimp only;omega,by dsimp only;omega⟩,by dsimp only;omega⟩))
     . refine LW.eqlF ?_
       refine LW.go un 9 rfl (LW.ad ((i+1:Int)) ?_)
       exact LW.go un 2 rfl (NW.mG ((i+1,s)) (by exact⟨⟨by omega,by dsimp only;rw [<- hs,sc,if_neg hm1,if_neg hm2];omega,by dsimp only;omega,by dsimp only;omega⟩,by dsimp only;omega⟩))
 . have hin:min a.length b.length<=i:=oF hc17
   rw [scoreL_drop m hin,Int.add_zero] at hs
   refine CW.go un 2 rfl (NW.then_exit (NW.go un 9 rfl ?_))
   refine NW.ret1 rfl rfl ⟨_,⟨by rw [<- hs],rfl⟩,?_⟩
   exact Sub.one .t
end
open Go.RowKit
def Fits (n:Int)(k:Nat):Prop:=-(2 ^ (8*k-1):Int)<=n/\n<(2 ^ (8*k-1):Int)
theorem wrap_i64 (x:Int):IntKind.i64.wrap x=(x+9223372036854775808) % 18446744073709551616-9223372036854775808:=by
 simp only [IntKind.wrap,IntKind.bits,IntKind.signed,Bool.true_and,decide_eq_true_eq,show (2:Int) ^ 64=18446744073709551616 by decide,show (2:Int) ^ (64-1)=9223372036854775808 by decide]
 by_cases h:x % 18446744073709551616>=9223372036854775808
 . rw [if_pos h];omega
 . rw [if_neg h];omega
theorem sx_def (n:Int)(k:Nat)(p:Int)(hp:(2:Int) ^ (8*(8-k))=p)(h0:0<p):sx n k=((n*p+9223372036854775808) % 18446744073709551616-9223372036854775808)/p:=by
 rw [sx,wrap_i64,hp,Int.fdiv_eq_ediv_of_nonneg _ (by omega)]
theorem sx_fits {n:Int}(hn:I64 n):(n=sx n 1↔Fits n 1)/\(n=sx n 2↔Fits n 2)/\(n=sx n 3↔Fits n 3)/\(n=sx n 4↔Fits n 4)/\(n=sx n 5↔Fits n 5)/\(n=sx n 6↔Fits n 6)/\(n=sx n 7↔Fits n 7):=by
 obtain⟨h1,h2⟩:=hn
 rw [sx_def n 1 72057594037927936 (by decide) (by decide),sx_def n 2 281474976710656 (by decide) (by decide),sx_def n 3 1099511627776 (by decide) (by decide),sx_def n 4 4294967296 (by decide) (by decide),sx_def n 5 16777216 (by decide) (by decide),sx_def n 6 65536 (by decide) (by decide),sx_def n 7 256 (by decide) (by decide)]
 simp only [Fits,show (2:Int) ^ (8*1-1)=128 by decide,show (2:Int) ^ (8*2-1)=32768 by decide,show (2:Int) ^ (8*3-1)=8388608 by decide,show (2:Int) ^ (8*4-1)=2147483648 by decide,show (2:Int) ^ (8*5-1)=549755813888 by decide,show (2:Int) ^ (8*6-1)=140737488355328 by decide,show (2:Int) ^ (8*7-1)=36028797018963968 by decide]
 refine⟨?_,?_,?_,?_,?_,?_,?_⟩<;>omega
theorem bv_of (z:Int):(BitVec.ofInt 64 z).toNat=(z % 18446744073709551616).toNat:=by
 rw [BitVec.toNat_ofInt]
 rfl
theorem or_acc (X b m:Nat)(hX:X<2 ^ (8*m))(hb:b<256)(hm:m<=7):bits .or .i64 (IntKind.i64.wrap (X:Int)) (IntKind.i64.wrap ((b:Int)*2 ^ (8*m)))=IntKind.i64.wrap ((X+b*2 ^ (8*m):Nat):Int):=by
 have hp:2 ^ (8*m)<=2 ^ 56:=Nat.pow_le_pow_right (by decide) (by omega)
 have hbm:b*2 ^ (8*m)<=255*2 ^ 56:=Nat.mul_le_mul (by omega) hp
 have h56:(2:Nat) ^ 56=72057594037927936:=by decide
 have e1:(BitVec.ofInt 64 (IntKind.i64.wrap (X:Int))).toNat=X:=by rw [bv_of,wrap_i64];omega
 have e2:(BitVec.ofInt 64 (IntKind.i64.wrap ((b:Int)*2 ^ (8*m)))).toNat=b*2 ^ (8*m):=by
  have hc:((b:Int)*2 ^ (8*m))=((b*2 ^ (8*m):Nat):Int):=by simp
  rw [hc,bv_of,wrap_i64]
  omega
 have e3:(BitVec.ofInt 64 (IntKind.i64.wrap (X:Int)) ||| BitVec.ofInt 64 (IntKind.i64.wrap ((b:Int)*2 ^ (8*m)))).toNat=X+b*2 ^ (8*m):=by
  rw [BitVec.toNat_or,e1,e2,Nat.or_comm,Nat.mul_comm,<- Nat.two_pow_add_eq_or_of_lt hX b]
  omega
 show IntKind.i64.wrap (((BitVec.ofInt 64 (IntKind.i64.wrap (X:Int)) ||| BitVec.ofInt 64 (IntKind.i64.wrap ((b:Int)*2 ^ (8*m)))).toNat:Nat):Int)=_
 rw [e3]
def sumZ (bs:List UInt8)(m:Nat):Nat:=(List.range m).foldl (fun x i=>x+(bs.getD (1+i) 0).toNat*2 ^ (8*i)) 0
theorem sumZ_succ (bs:List UInt8)(m:Nat):sumZ bs (m+1)=sumZ bs m+(bs.getD (1+m) 0).toNat*2 ^ (8*m):=by simp [sumZ,List.range_succ,List.foldl_append]
theorem accZ_succ (bs:List UInt8)(m:Nat):accZ bs (m+1)=bits .or .i64 (accZ bs m) (IntKind.i64.wrap (((bs.getD (1+m) 0).toNat:Int)*2 ^ (8*m))):=by simp [accZ,List.range_succ,List.foldl_append]
theorem sumZ_lt (bs:List UInt8):∀ m,sumZ bs m<2 ^ (8*m)
 | 0=>by simp [sumZ]
 | m+1=>by
  have h1:=sumZ_lt bs m
  have h2:=(bs.getD (1+m) 0).toNat_lt
  have h3:(bs.getD (1+m) 0).toNat*2 ^ (8*m)<=255*2 ^ (8*m):=Nat.mul_le_mul_right _ (by omega)
  rw [sumZ_succ,show 8*(m+1)=8*m+8 by omega,Nat.pow_add]
  omega
theorem accZ_sum (bs:List UInt8):∀ m,m<=8->accZ bs m=IntKind.i64.wrap (sumZ bs m:Int)
 | 0,_=>by simp [accZ,sumZ];rfl
 | m+1,hm=>by
  rw [accZ_succ,accZ_sum bs m (by omega),or_acc _ _ m (sumZ_lt bs m) (bs.getD (1+m) 0).toNat_lt (by omega),sumZ_succ]
theorem byteZ_val (n:Int)(i:Nat):((byteZ n i).toNat:Int)=n/2 ^ (8*i) % 256:=by
 have h:(0:Int)<=2 ^ (8*i):=Int.pow_nonneg (by decide)
 rw [byteZ,UInt8.toNat_ofNat',Int.fdiv_eq_ediv_of_nonneg _ h]
 omega
theorem encZ_get (n:Int)(r:List UInt8)(i:Nat)(hi:i<sizeZ n):(encZ n++r).getD (1+i) 0=byteZ n i:=by
 rw [Nat.add_comm,List.getD_eq_getElem?_getD,List.getElem?_append_left (by rw [encZ_len];omega)]
 simp [encZ,hi]
theorem encZ_head (n:Int)(r:List UInt8):((encZ n++r).getD 0 0).toNat=sizeZ n:=by
 have:=sizeZ_le n
 show (UInt8.ofNat (sizeZ n)).toNat=_
 rw [UInt8.toNat_ofNat']
 omega
theorem mod_step (n:Int)(m:Nat)(hm:m<8):n % 2 ^ (8*m)+n/2 ^ (8*m) % 256*2 ^ (8*m)=n % 2 ^ (8*(m+1)):=by
 have h:m=0\/m=1\/m=2\/m=3\/m=4\/m=5\/m=6\/m=7:=by omega
 rcases h with rfl | rfl | rfl | rfl | rfl | rfl | rfl | rfl
 . simp only [show (2:Int) ^ (8*0)=1 by decide,show (2:Int) ^ (8*(0+1))=256 by decide];omega
 . simp only [show (2:Int) ^ (8*1)=256 by decide,show (2:Int) ^ (8*(1+1))=65536 by decide];omega
 . simp only [show (2:Int) ^ (8*2)=65536 by decide,show (2:Int) ^ (8*(2+1))=16777216 by decide];omega
 . simp only [show (2:Int) ^ (8*3)=16777216 by decide,show (2:Int) ^ (8*(3+1))=4294967296 by decide];omega
 . simp only [show (2:Int) ^ (8*4)=4294967296 by decide,show (2:Int) ^ (8*(4+1))=1099511627776 by decide];omega
 . simp only [show (2:Int) ^ (8*5)=1099511627776 by decide,show (2:Int) ^ (8*(5+1))=281474976710656 by decide];omega
 . simp only [show (2:Int) ^ (8*6)=281474976710656 by decide,show (2:Int) ^ (8*(6+1))=72057594037927936 by decide];omega
 . simp only [show (2:Int) ^ (8*7)=72057594037927936 by decide,show (2:Int) ^ (8*(7+1))=18446744073709551616 by decide];omega
theorem sumZ_enc (n:Int)(r:List UInt8):∀ m,m<=sizeZ n->(sumZ (encZ n++r) m:Int)=n % 2 ^ (8*m)
 | 0,_=>by simp [sumZ]
 | m+1,hm=>by
  have:=sizeZ_le n
  rw [sumZ_succ,encZ_get n r m (by omega),Int.natCast_add,sumZ_enc n r m (by omega),Int.natCast_mul,byteZ_val,<- mod_step n m (by omega)]
  simp
theorem sizeZ_zero {n:Int}(h:sizeZ n=0):n=0:=by
 unfold sizeZ at h
 split at h
 . assumption
 . repeat' split at h
   all_goals omega
theorem fits_size {n:Int}(hn:I64 n):sizeZ n=0\/sizeZ n=8\/Fits n (sizeZ n):=by
 obtain⟨f1,f2,f3,f4,f5,f6,f7⟩:=sx_fits hn
 unfold sizeZ
 split
 . exact .inl rfl
 split
 . exact .inr (.inr (f1.1 (by assumption)))
 split
 . exact .inr (.inr (f2.1 (by assumption)))
 split
 . exact .inr (.inr (f3.1 (by assumption)))
 split
 . exact .inr (.inr (f4.1 (by assumption)))
 split
 . exact .inr (.inr (f5.1 (by assumption)))
 split
 . exact .inr (.inr (f6.1 (by assumption)))
 split
 . exact .inr (.inr (f7.1 (by assumption)))
 . exact .inr (.inl rfl)
theorem sx_mod {n:Int}(hn:I64 n)(k:Nat)(hk:1<=k)(hk8:k<=8)(hf:k=8\/Fits n k):sx (IntKind.i64.wrap (n % 2 ^ (8*k))) k=n:=by
 obtain⟨h1,h2⟩:=hn
 have h:k=1\/k=2\/k=3\/k=4\/k=5\/k=6\/k=7\/k=8:=by omega
 rcases h with rfl | rfl | rfl | rfl | rfl | rfl | rfl | rfl
 . rw [sx_def _ 1 72057594037927936 (by decide) (by decide),wrap_i64]
   simp only [Fits,show (2:Int) ^ (8*1)=256 by decide,show (2:Int) ^ (8*1-1)=128 by decide] at hf |-
   omega
 . rw [sx_def _ 2 281474976710656 (by decide) (by decide),wrap_i64]
   simp only [Fits,show (2:Int) ^ (8*2)=65536 by decide,show (2:Int) ^ (8*2-1)=32768 by decide] at hf |-
   omega
 . rw [sx_def _ 3 1099511627776 (by decide) (by decide),wrap_i64]
   simp only [Fits,show (2:Int) ^ (8*3)=16777216 by decide,show (2:Int) ^ (8*3-1)=8388608 by decide] at hf |-
   omega
 . rw [sx_def _ 4 4294967296 (by decide) (by decide),wrap_i64]
   simp only [Fits,show (2:Int) ^ (8*4)=4294967296 by decide,show (2:Int) ^ (8*4-1)=2147483648 by decide] at hf |-
   omega
 . rw [sx_def _ 5 16777216 (by decide) (by decide),wrap_i64]
   simp only [Fits,show (2:Int) ^ (8*5)=1099511627776 by decide,show (2:Int) ^ (8*5-1)=549755813888 by decide] at hf |-
   omega
 . rw [sx_def _ 6 65536 (by decide) (by decide),wrap_i64]
   simp only [Fits,show (2:Int) ^ (8*6)=281474976710656 by decide,show (2:Int) ^ (8*6-1)=140737488355328 by decide] at hf |-
   omega
 . rw [sx_def _ 7 256 (by decide) (by decide),wrap_i64]
   simp only [Fits,show (2:Int) ^ (8*7)=72057594037927936 by decide,show (2:Int) ^ (8*7-1)=36028797018963968 by decide] at hf |-
   omega
 . rw [sx_def _ 8 1 (by decide) (by decide),wrap_i64]
   simp only [show (2:Int) ^ (8*8)=18446744073709551616 by decide]
   omega
theorem getZ_enc {n:Int}(hn:I64 n)(r:List UInt8):getZ (encZ n++r)=some (n,sizeZ n+1):=by
 have h8:=sizeZ_le n
 have hl:(encZ n++r).length=sizeZ n+1+r.length:=by rw [List.length_append,encZ_len]
 have hnum:numZ (encZ n++r) (sizeZ n)=n:=by
  unfold numZ
  split
  . exact (sizeZ_zero (by assumption)).symm
  . rw [accZ_sum _ _ h8,sumZ_enc n r _ (Nat.le_refl _)]
    refine sx_mod hn _ (by omega) h8 ?_
    rcases fits_size hn with h | h | h
    . omega
    . exact .inl h
    . exact .inr h
 unfold getZ
 rw [encZ_head,if_neg (by omega),if_neg (by omega),if_neg (by omega),hnum,if_pos rfl]
def rdI (r:List UInt8×Bool):Int×(List UInt8×Bool):=
 if r.2=true then (0,r) else match getZ r.1 with
  | none=>(0,(r.1,true))
  | some (n,k)=>(n,(r.1.drop k,false))
def rdN:Nat->List UInt8×Bool->List Int×(List UInt8×Bool)
 | 0,r=>([],r)
 | k+1,r=>((rdI r).1::(rdN k (rdI r).2).1,(rdN k (rdI r).2).2)
def slotX (s:Int)(ns:List Int):List UInt8:=encs [20750,s,(ns.length:Int)]++encs ns
def slotB (s:Int)(ns:List Int):List UInt8:=(slotX s ns++List.replicate 64 0).take 64
def slotHead (b:List UInt8):Int×Int×Int×(List UInt8×Bool):=
 ((rdI (b,false)).1,(rdI (rdI (b,false)).2).1,(rdI (rdI (rdI (b,false)).2).2).1,(rdI (rdI (rdI (b,false)).2).2).2)
def slotFine (h:Int×Int×Int×(List UInt8×Bool)):Bool:=!h.2.2.2.2 && (h.1==20750) && decide (1<=h.2.1) && decide (0<=h.2.2.1) && decide (h.2.2.1<=4)
def slotGet (b:List UInt8)(i:Int):Int×List Int:=
 if slotFine (slotHead b)=true then
  if (rdN (slotHead b).2.2.1.toNat (slotHead b).2.2.2).2.2=false/\(slotHead b).2.1.tmod 2=i then ((slotHead b).2.1,(rdN (slotHead b).2.2.1.toNat (slotHead b).2.2.2).1) else (0,[])
 else (0,[])
theorem rdI_enc {n:Int}(hn:I64 n)(r:List UInt8):rdI (encZ n++r,false)=(n,(r,false)):=by
 simp only [rdI,Bool.false_eq_true,if_false,getZ_enc hn r]
 rw [List.drop_append_of_le_length (by rw [encZ_len];exact Nat.le_refl _),List.drop_eq_nil_of_le (by rw [encZ_len];exact Nat.le_refl _),List.nil_append]
theorem rdN_encs:∀ (ns:List Int) (r:List UInt8),(∀ n∈ns,I64 n)->rdN ns.length (encs ns++r,false)=(ns,(r,false))
 | [],r,_=>by simp [rdN,encs]
 | n::ns,r,h=>by
  have h1:encs (n::ns)++r=encZ n++(encs ns++r):=by simp [encs]
  have h2:=rdN_encs ns r (fun m hm=>h m (by simp [hm]))
  rw [h1]
  simp only [List.length_cons,rdN,rdI_enc (h n (by simp)),h2]
theorem slotX_len {s:Int}{ns:List Int}(h:ns.length<=4):(slotX s ns).length<=63:=by
 have h1:=encs_len [20750,s,(ns.length:Int)]
 have h2:=encs_len ns
 simp at h1
 rw [slotX,List.length_append]
 omega
theorem slotB_eq {s:Int}{ns:List Int}(h:ns.length<=4):slotB s ns=slotX s ns++List.replicate (64-(slotX s ns).length) 0:=by
 have:=slotX_len (s:=s) h
 rw [slotB,List.take_append,List.take_of_length_le (by omega),List.take_replicate]
 congr 2
 omega
theorem slotB_len (s:Int)(ns:List Int):(slotB s ns).length=64:=by simp [slotB]
theorem slotHead_B {s:Int}{ns:List Int}(hs:I64 s)(h4:ns.length<=4):slotHead (slotB s ns)=(20750,s,(ns.length:Int),(encs ns++List.replicate (64-(slotX s ns).length) 0,false)):=by
 have h0:I64 20750:=⟨by decide,by decide⟩
 have hl:I64 (ns.length:Int):=⟨by omega,by omega⟩
 have hb:slotB s ns=encZ 20750++(encZ s++(encZ (ns.length:Int)++(encs ns++List.replicate (64-(slotX s ns).length) 0))):=by
  rw [slotB_eq h4]
  simp [slotX,encs]
 rw [hb]
 simp only [slotHead,rdI_enc h0,rdI_enc hs,rdI_enc hl]
theorem slotGet_B {s:Int}{ns:List Int}(hs:I64 s)(h1:1<=s)(h4:ns.length<=4)(hn:∀ n∈ns,I64 n):slotGet (slotB s ns) (s.tmod 2)=(s,ns):=by
 have hf:slotFine (20750,s,(ns.length:Int),(encs ns++List.replicate (64-(slotX s ns).length) 0,false))=true:=by
  simp [slotFine,h1];omega
 rw [slotGet,slotHead_B hs h4,if_pos hf]
 simp only [Int.toNat_natCast,rdN_encs ns _ hn,and_self,if_true]
theorem slotGet_zero (i:Int):slotGet zSec i=(0,[]):=by
 have:slotFine (slotHead zSec)=false:=by decide +kernel
 rw [slotGet,this];rfl
end Go.Proofs.YtnlpccoigflheaaGreatDoor
