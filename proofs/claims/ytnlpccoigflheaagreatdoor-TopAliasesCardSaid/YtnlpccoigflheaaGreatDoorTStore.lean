/- TGra4 TRow2 TErr TStore -/
import Derived.Test.YtnlpccoigflheaaGreatDoorTGra3
import Derived.Test.YtnlpccoigflheaaGreatDoorMapX
import Derived.Lib.LaidTab
import Derived.Lib.SmallJoins
import Derived.Test.YtnlpccoigflheaaGreatDoorTMeans
import Derived.Test.YtnlpccoigflheaaGreatDoorTIvf
import Derived.Test.YtnlpccoigflheaaGreatDoorFac
namespace Go.Proofs.YtnlpccoigflheaaGreatDoor
open Go.RowKit
open Go.Proofs.Tryz
def TuA:Tbl:=⟨[(36,1,1),(36,4,4),(153,0,0),(284,1,1)],[52],[85,163]⟩
theorem uA:TuA.Ok Tryz.prog:=.of (⟨⟨_,Tryz.underlying85⟩,⟨_,Tryz.underlying163⟩,trivial⟩)
def deB:List Int:=[0,1,28,2,29,14,24,3,30,22,20,15,25,17,4,8,31,27,13,23,21,19,16,7,26,12,18,6,11,5,10,9]
def Tab (W:World)(B:Nat):Prop:=1<B/\∀ j x,deB[j]?=some x->W.cell? ⟨1,j,none⟩=some (.int .u8 x)
theorem and_compl:∀ (n y:Nat),y<2 ^ n->y &&& (2 ^ n-1-y)=0
 | 0,y,h=>by
  have:y=0:=by simpa using h
  subst this;rfl
 | n+1,y,h=>by
  have hp:2 ^ (n+1)=2*2 ^ n:=by rw [Nat.pow_succ,Nat.mul_comm]
  have ih:=and_compl n (y/2) (by omega)
  have h1:(y &&& (2 ^ (n+1)-1-y))/2=0:=by
   rw [Nat.and_div_two,show (2 ^ (n+1)-1-y)/2=2 ^ n-1-y/2 by omega]
   exact ih
  have h2:(y &&& (2 ^ (n+1)-1-y)) % 2=0:=by
   have:=Nat.and_mod_two_pow (a:=y) (b:=2 ^ (n+1)-1-y) (n:=1)
   rw [Nat.pow_one] at this
   rw [this]
   rcases Nat.mod_two_eq_zero_or_one y with e | e
   . rw [e];exact Nat.zero_and _
   . rw [e,show (2 ^ (n+1)-1-y) % 2=0 by omega];rfl
  omega
theorem and_neg:∀ (n x:Nat),0<x->x<2 ^ n->x &&& (2 ^ n-x)=2 ^ tz32 n x/\tz32 n x<n
 | 0,x,h0,h=>by simp at h;omega
 | n+1,x,h0,h=>by
  have hp:2 ^ (n+1)=2*2 ^ n:=by rw [Nat.pow_succ,Nat.mul_comm]
  have hd:∀ b,(x &&& b)=2*((x/2) &&& (b/2))+((x % 2) &&& (b % 2)):=fun b=>by
    have h1:=Nat.and_div_two (a:=x) (b:=b)
    have h2:=Nat.and_mod_two_pow (a:=x) (b:=b) (n:=1)
    rw [Nat.pow_one] at h2
    have h3:=Nat.div_add_mod (x &&& b) 2
    rw [h1,h2] at h3
    exact h3.symm
  rw [hd]
  simp only [tz32]
  rcases Nat.mod_two_eq_zero_or_one x with e | e
  . rw [e,if_neg (by decide),Nat.zero_and,Nat.add_zero,show (2 ^ (n+1)-x)/2=2 ^ n-x/2 by omega]
    obtain⟨h1,h2⟩:=and_neg n (x/2) (by omega) (by omega)
    rw [h1]
    exact⟨by rw [Nat.pow_succ,Nat.mul_comm],by omega⟩
  . rw [e,if_pos rfl,show (2 ^ (n+1)-x)/2=2 ^ n-1-x/2 by omega,and_compl n (x/2) (by omega),show (2 ^ (n+1)-x) % 2=1 by omega]
    exact⟨rfl,Nat.zero_lt_succ _⟩
def deI (k:Nat):Nat:=2 ^ k*125613361 % 4294967296/134217728
theorem deI_ok:∀ k,k<32->deI k<32/\deB[deI k]?=some (k:Int):=by decide +kernel
theorem wrap_u32 (x:Int):IntKind.u32.wrap x=x % 4294967296:=rfl
theorem and_u32 {x y:Nat}(hx:x<4294967296)(hy:y<4294967296):bits .and .u32 (x:Int) (y:Int)=((x &&& y:Nat):Int):=by
 show IntKind.u32.wrap (((BitVec.ofInt 32 (x:Int) &&& BitVec.ofInt 32 (y:Int)).toNat:Nat):Int)=_
 have hle:x &&& y<=x:=Nat.and_le_left
 have e:(BitVec.ofInt 32 (x:Int) &&& BitVec.ofInt 32 (y:Int)).toNat=x &&& y:=by
  rw [BitVec.toNat_and,BitVec.ofInt_natCast,BitVec.ofInt_natCast,BitVec.toNat_ofNat,BitVec.toNat_ofNat,Nat.mod_eq_of_lt hx,Nat.mod_eq_of_lt hy]
 rw [e]
 exact IntWalk.u32_in _ ⟨by omega,by omega⟩
theorem tz_zero:∀ n,tz32 n 0=n
 | 0=>rfl
 | n+1=>by simp only [tz32];rw [if_neg (by decide)];exact congrArg (·+1) (tz_zero n)
theorem tz_le:∀ n x,tz32 n x<=n
 | 0,_=>Nat.le_refl _
 | n+1,x=>by simp only [tz32];split;omega;have:=tz_le n (x/2);omega
theorem tz_steps {x:Nat}(h0:¬ x=0)(hx:x<4294967296):∃ y7 y8 y9 y10:Nat,IntKind.u32.wrap (-(x:Int))=(y7:Int)/\bits .and .u32 (x:Int) (y7:Int)=(y8:Int)/\IntKind.u32.wrap ((y8:Int)*125613361)=(y9:Int) /\
   (y9:Int).fdiv (2 ^ min (27:Int).toNat IntKind.u32.bits)=(y10:Int)/\y10<32/\deB[y10]?=some ((tz32 32 x:Nat):Int)/\tz32 32 x<32:=by
 have h32:(2:Nat) ^ 32=4294967296:=by decide
 obtain⟨ha,hk⟩:=and_neg 32 x (by omega) (by rw [h32];exact hx)
 rw [h32] at ha
 obtain⟨hi,hd⟩:=deI_ok _ hk
 unfold deI at hi hd
 generalize tz32 32 x=k at *
 have hy7:4294967296-x<4294967296:=by omega
 refine⟨4294967296-x,2 ^ k,2 ^ k*125613361 % 4294967296,2 ^ k*125613361 % 4294967296/134217728,?_,?_,?_,?_,hi,hd,hk⟩
 . rw [wrap_u32];omega
 . rw [and_u32 hx hy7,ha]
 . rw [wrap_u32];omega
 . rw [show min (27:Int).toNat IntKind.u32.bits=27 from rfl,Int.fdiv_eq_ediv_of_nonneg _ (by decide)];omega
theorem levelP_le (d:Nat):levelP d<=4:=by unfold levelP;omega
section
variable (W:World)(B:Nat)
theorem trail0 (ht:Tab W B)(x:Nat)(hx:x<4294967296):Spec prog W B 233 [.int .u32 (x:Int)] [] (fun r post=>r=.int .i64 ((tz32 32 x:Nat):Int)/\post=[]):=by
 by_cases h0:x=0
 . subst h0
   refine Spec.eG [] func233 ntmps233 fun w0=>?_
   refine CW.go uA 9 rfl (LW.eqlT ?_)
   refine LW.go uA 10 rfl ?_
   refine NW.ret1 rfl rfl ⟨_,⟨by rw [tz_zero];rfl,rfl⟩,?_⟩
   exact Sub.nil _
 . obtain⟨y7,y8,y9,y10,hw7,hw8,hw9,hw10,hi,hd,hk⟩:=tz_steps h0 hx
   generalize tz32 32 x=k at *
   refine Spec.eG [] func233 ntmps233 fun w0=>?_
   refine CW.go uA 9 rfl (LW.eqlF ?_)
   refine LW.go uA 9 rfl (LW.neg ((y7:Int)) rfl (hw7) rfl ?_)
   refine LW.and_ ((y8:Int)) rfl rfl (hw8) rfl ?_
   refine LW.mul ((y9:Int)) rfl rfl (hw9) rfl ?_
   refine LW.shr ((y10:Int)) rfl rfl (by omega) (hw10) rfl ?_
   refine LW.indexAddrA (y10) rfl rfl underlying391 ixs391 (by omega) (by omega) (by simp) rfl ?_
   refine LW.loadOld rfl (ht.1) (ht.2 _ _ hd) one5 rfl ?_
   refine LW.convInt ((k:Int)) rfl underlying5 underlying3 (by exact wr64 rfl (by omega) (by omega)) rfl ?_
   refine LW.go uA 4 rfl ?_
   refine NW.r1 ⟨_,⟨rfl,rfl⟩,?_⟩
   exact Sub.nil _
theorem gra_Level (ht:Tab W B)(x:Nat)(hx:x<4294967296):Spec prog W B 167 [.int .u32 (x:Int)] [] (fun r post=>r=.int .i64 (levelP x:Int)/\post=[]):=by
 have hl:=tz_le 32 x
 refine Spec.eG [] func167 ntmps167 fun w0=>?_
 refine CW.go uA 8 rfl (LW.eT (trail0 W B ht x hx) cl233 ((Take.none _)) ?_)
 refine LW.quo (((tz32 32 x/2:Nat):Int)) rfl rfl (by decide) (by rw [Int.tdiv_eq_ediv_of_nonneg (by omega)];exact wr64 (by omega) (by omega) (by omega)) rfl ?_
 refine LW.min2 ((levelP x:Int)) rfl rfl (by unfold levelP;split<;>omega) rfl ?_
 refine LW.go uA 4 rfl ?_
 refine NW.r1 ⟨_,⟨rfl,rfl⟩,?_⟩
 exact Sub.nil _
theorem gra_Del_no (p:Nat)(m:Int)(g:GraP)(rows im:List Row)(id:Int)(hg:GraR W B im p m g rows)(ha:aget g id=none) :
  Spec prog W B 106 [ptr p,.int .i64 id] rows (fun r post=>r=.bool false/\post=rows):=by
 obtain⟨mv,chm,es,cs,hom,hns,rfl,hok⟩:=hg
 have hm:=hns.miss ha
 refine Spec.eG [[cr p 284 [.int .i64 m,mv]],chm,cs.flatten] func106 ntmps106 fun w0=>?_
 refine CW.go uA 9 rfl (LW.pn underlying158 ?_)
 refine LW.go uA 8 rfl (LW.ld one282 ?_)
 refine LW.go uA 3 rfl (LW.mapMiss1 rfl rfl keyInt (hom) .t underlying282 underlying3 zero277 (hm) rfl ?_)
 refine LW.go uA 1 rfl (LW.pn underlying277 ?_)
 refine LW.go uA 11 rfl ?_
 refine NW.r1 ⟨_,⟨rfl,rfl⟩,?_⟩
 exact .s3
theorem nodes_app {W:World}{B:Nat}{im:List Row}{id:Int}{b:Nat}{nd:NodeP}{c:List Row}(hc:NodeR W B im b nd c):∀ {es:List (Int×Nat)} {g:GraP} {cs:List (List Row)},NodesR W B im es g cs->NodesR W B im (es++[(id,b)]) (g++[(id,nd)]) (cs++[c])
 | [],[],[],_=>⟨rfl,hc,trivial⟩
 | [],_::_,_,h=>h.elim
 | [],[],_::_,h=>h.elim
 | _::_,[],_,h=>h.elim
 | _::_,_::_,[],h=>h.elim
 | _::_,_::_,_::_,⟨h1,h2,h3⟩=>⟨h1,h2,nodes_app hc h3⟩
theorem aset_new {κ α:Type}[DecidableEq κ]{k:κ}{x:α}:∀ {l:List (κ×α)},aget l k=none->aset l k x=l++[(k,x)]
 | [],_=>rfl
 | (a,w)::r,h=>by
  simp only [aget] at h
  split at h
  . cases h
  . rename_i he;simp only [aset,if_neg he,List.cons_append];rw [aset_new h]
theorem mset_new {κ:Type}[DecidableEq κ]{k:κ}{x:Value}:∀ {l:List (κ×Value)},mget l k=none->mset l k x=l++[(k,x)]
 | [],_=>rfl
 | (a,w)::r,h=>by
  simp only [mget] at h
  split at h
  . cases h
  . rename_i he;simp only [mset,if_neg he,List.cons_append];rw [mset_new h]
theorem GraOk.put {g:GraP}(h:GraOk g){id:Int}{v:List Int}{lv:Nat}(hi:IdOk id)(hv:VOk v)(hl:lv<=4)(ha:aget g id=none):GraOk (aset g id ⟨v,lv,List.replicate 5 []⟩):=by
 have hk:∀ y,(∃ nd,aget g y=some nd)->∃ nd,aget (aset g id ⟨v,lv,List.replicate 5 []⟩) y=some nd:=fun y ⟨nd,hn⟩=>by
   rw [aget_aset]
   by_cases he:id=y
   . rw [if_pos he];exact⟨_,rfl⟩
   . rw [if_neg he];exact⟨nd,hn⟩
 refine⟨aset_nodup h.nd,fun x hx=>?_,fun x hx=>?_,fun x hx=>?_,fun x hx=>?_⟩
 . rcases aset_keys_mem hx with rfl | hx
   . exact hi
   . exact h.ids _ hx
 . rcases aset_keys_mem hx with rfl | hx
   . exact⟨hv,hl,by simp⟩
   . exact h.vok _ hx
 . rcases aset_keys_mem hx with rfl | hx
   . intro l hl'
     have:=(List.mem_replicate.1 hl').2
     subst this
     exact List.Pairwise.nil
   . exact h.srt _ hx
 . rcases aset_keys_mem hx with rfl | hx
   . intro l hl' y hy
     have:=(List.mem_replicate.1 hl').2
     subst this
     cases hy
   . intro l hl' y hy
     exact hk y (h.mem _ hx l hl' y hy)
theorem eStep_in {g:GraP}(h:GraOk g):∀ (l:List Int) (st:Int×Int),(st.2=-1\/(∃ nd,aget g st.1=some nd)/\0<=st.2/\st.2<=4)->(l.foldl (eStep g) st).2=-1\/(∃ nd,aget g (l.foldl (eStep g) st).1=some nd)/\0<=(l.foldl (eStep g) st).2/\(l.foldl (eStep g) st).2<=4
 | [],_,hst=>hst
 | x::r,st,hst=>by
  rw [List.foldl_cons]
  refine eStep_in h r _ ?_
  unfold eStep
  cases hx:aget g x with
  | none=>exact hst
  | some nd=>
   simp only
   split
   . have:=(h.at hx).2.2.1
     exact .inr ⟨⟨nd,hx⟩,by simp only;omega,by simp only;omega⟩
   . exact hst
theorem entry_in {g:GraP}(h:GraOk g):(entryP g).2=-1\/(∃ nd,aget g (entryP g).1=some nd)/\0<=(entryP g).2/\(entryP g).2<=4:=by
 unfold entryP
 rw [entryGo_fold g _ (0,-1)]
 exact eStep_in h _ _ (.inl rfl)
end
open Go.ChangeShapes Go.WideShapes Go.RowKit Go.Deep
abbrev laid2:List (String×DataW Unit):=[("math/bits.deBruijn32tab",Rows.laid_math_bits_deBruijn32tab),("errors.errorType",Rows.laid_errors_errorType)]
theorem tabNamed:prog.globalNamed "math/bits.deBruijn32tab" = some 1:=by kernel_rfl
theorem tabTyped:(prog.globals[1]?).map (·.type)=some 391:=by kernel_rfl
theorem laid2_split {W:World}(h:laidMetH prog laid2 W):laidMet prog [("math/bits.deBruijn32tab",Rows.laid_math_bits_deBruijn32tab)] W/\handlesMet prog [("errors.errorType",Rows.laid_errors_errorType)] W:=h
theorem handle_of_laid2 {W:World}(h:laidMetH prog laid2 W):W.cell? ⟨0,0,none⟩=some (rty 43):=by
 have h1:=(laid2_split h).2
 refine handle_of_laid ?_
 exact (⟨laidMet_nil _ _,h1⟩:laidMet prog [] W/\handlesMet prog [("errors.errorType",Rows.laid_errors_errorType)] W)
theorem tab_of_laid2 {W:World}(h:laidMetH prog laid2 W):Tab W W.heap.size:=by
 obtain⟨ps,⟨g,t,cs,fuel,p,q,e1,e2,e3,e4,_⟩,_⟩:=(laid2_split h).1
 obtain rfl:=Option.some.inj (tabNamed.symm.trans e1)
 obtain rfl:=Option.some.inj (tabTyped.symm.trans e2)
 have e5:DataW.trod (fun _=>()) prog W 0 (fun _=>true) false fuel 391 cs.toList=some (Lib.tabData .u8 deB,p):=e4
 have hcs:=Lib.cells_of_tab underlying391 underlying5 (by kernel_rfl) (by kernel_rfl) e5
 have hc:∀ j x,deB[j]?=some x->W.cell? ⟨1,j,none⟩=some (.int .u8 x):=fun j x hj=>by
  have h1:W.cell? ⟨1,j,none⟩=cs[j]?:=World.var?_cell tabNamed e3 j
  rw [h1,<- Array.getElem?_toList,hcs,List.getElem?_map,hj]
  rfl
 exact⟨block_lt (hc 0 0 rfl),hc⟩
noncomputable def laidWorld2 (os:Os):World:=
 let w0:=World.holding prog os ⟨#[],#[],[]⟩
 { w0 with heap:=(w0.heap.modify 0 fun
  | .cells _ t frozen=>.cells #[rty 43] t frozen
  | o=>o).modify 1 fun
  | .cells _ t frozen=>.cells (deB.map fun z=>Value.int .u8 z).toArray t frozen
  | o=>o }
theorem laidWorld2_met (os:Os)(args:Array Value):laidMetH prog laid2 ((laidWorld2 os).forCall (fun _ _=>0) ⟨#[],args,[]⟩).memory:=
 laidMetH_of_parts (laidMet_of_run' 8 (by kernel_rfl) (by kernel_rfl)) (by kernel_rfl)
section
variable {H:Type}{enc:TypeId×Value->H}{P:Program}{W:World}
theorem open_src0 {t e:TypeId}{v:Value}{fuel:Nat}{x:DataW H×List MemPlace}(ht:P.underlying t=some (.slice e))(hc:P.cellsOf e=1)(hf:DataW.trod enc P W 0 (fun _=>true) true fuel t [v]=some x) :
   ∃ A cp vs,v=.slice A vs.length cp/\vs.length<=cp/\Src W W.heap.size [] A vs/\(A=none->vs.length=0)/\∀ u∈vs,∃ n x,DataW.trod enc P W 0 (fun _=>true) true n e [u]=some x:=by
 rcases open_slice1 ht hc hf with ⟨h0,_⟩ | ⟨a',len,cap,m,n,V,D,Pl,h1,hb,hl,hm,hmm,hx,hcell⟩
 . simp at h0
   subst h0
   exact⟨none,0,[],rfl,Nat.le_refl _,Src.nil,fun _=>rfl,fun _ hu=>by cases hu⟩
 . simp at h1
   subst h1
   simp only [if_true] at hmm
   subst hmm
   refine⟨some a',m,(List.range len).map V,by simp,by simpa using hl,?_,fun h=>(by cases h),?_⟩
   . rcases Nat.eq_zero_or_pos len with rfl | hpos
     . exact .inl rfl
     . refine .inr ⟨a',rfl,.inl ⟨?_,fun j u hj=>?_⟩⟩
       . have:=block_lt (hcell 0 (by omega)).1
         rwa [block_of_add] at this
       . have hjl:j<len:=by
          have:=(List.getElem?_eq_some_iff.1 hj).1
          simpa using this
         simp [hjl] at hj
         subst hj
         exact (hcell j (by omega)).1
   . intro u hu
     obtain⟨j,hj,rfl⟩:=List.mem_map.1 hu
     have:=List.mem_range.1 hj
     exact⟨n,_,(hcell j (by omega)).2⟩
theorem open_vec0 {t e:TypeId}{v:Value}{fuel:Nat}{x:DataW H×List MemPlace}(ht:P.underlying t=some (.slice e))(he:P.underlying e=some (.int .i32))(hc:P.cellsOf e=1)(hf:DataW.trod enc P W 0 (fun _=>true) true fuel t [v]=some x) :
  ∃ xs,VecAt W W.heap.size [] v xs:=by
 obtain⟨A,cp,vs,rfl,hl,hs,hA,hel⟩:=open_src0 ht hc hf
 obtain⟨xs,rfl,_⟩:=list_of (f:=i32v) (p:=fun _=>True) vs (fun u hu=>by
  obtain⟨n,x,hx⟩:=hel u hu
  obtain⟨b,h1,_⟩:=DataW.trod_int he hx
  have h2:u=.int .i32 b:=by simpa using h1
  exact⟨b,h2,trivial⟩)
 exact⟨xs,A,cp,by simp,by simpa using hl,by simp,hs,by simpa using hA⟩
theorem open_vec {r:Reach}{b0:Nat}{t e:TypeId}{v:Value}{d:DataW H}{ps:List MemPlace}(ht:P.underlying t=some (.slice e))(he:P.underlying e=some (.int .i32))(hc:P.cellsOf e=1)(hv:Value.okWide P W r b0 t v)(h:DataW.Trod enc P W 0 (fun _=>true) true t v d ps) :
  ∃ xs,VecAt W W.heap.size [] v xs:=by
 obtain⟨a,l,c,rfl⟩:=okWide_slice ht hv
 obtain⟨fuel,hf⟩:=h
 exact open_vec0 ht he hc (fuel:=fuel) (by simpa [Value.cells] using hf)
theorem vecs_of {B:Nat}:∀ (vs:List Value),(∀ u∈vs,∃ xs,VecAt W B [] u xs)->∃ l:List (Value×List Int),l.map (·.1)=vs/\∀ x∈l,VecAt W B [] x.1 x.2
 | [],_=>⟨[],rfl,fun _ h=>by cases h⟩
 | v::vs,h=>by
  obtain⟨xs,hx⟩:=h v List.mem_cons_self
  obtain⟨l,rfl,hl⟩:=vecs_of vs fun u hu=>h u (List.mem_cons_of_mem _ hu)
  refine⟨(v,xs)::l,rfl,fun y hy=>?_⟩
  rcases List.mem_cons.1 hy with rfl | hy
  . exact hx
  . exact hl y hy
theorem open_vecs {r:Reach}{b0:Nat}{t e e2:TypeId}{v:Value}{d:DataW H}{ps:List MemPlace}(ht:P.underlying t=some (.slice e))(he:P.underlying e=some (.slice e2))(he2:P.underlying e2=some (.int .i32))(hc:P.cellsOf e=1)(hc2:P.cellsOf e2=1)(hv:Value.okWide P W r b0 t v)(h:DataW.Trod enc P W 0 (fun _=>true) true t v d ps) :
  ∃ vs,VecsAt W W.heap.size [] v vs:=by
 obtain⟨A,cp,us,rfl,hl,_,hs,hA,hel⟩:=open_src ht hc hv h
 obtain⟨l,rfl,hvv⟩:=vecs_of (B:=W.heap.size) us fun u hu=>by
  obtain⟨n,x,hx⟩:=hel u hu
  exact open_vec0 he he2 hc2 hx
 exact⟨l,⟨A,cp,by simp,by simpa using hl,by simp,hs,by simpa using hA⟩,hvv⟩
end
open Go.RowKit
def ErrR (v:Value)(e:Int)(rows:List Row):Prop:=(e=0/\v=.nilIface/\rows=[])\/(e≠0/\∃ l,l≠[]/\v=chainV l (eno e)/\rows=chainR l (eno e))
theorem ErrR.none:ErrR .nilIface 0 []:=.inl ⟨rfl,rfl,rfl⟩
theorem ErrR.zero {v:Value}{rows:List Row}(h:ErrR v 0 rows):v=.nilIface/\rows=[]:=by
 rcases h with ⟨_,h⟩ | ⟨h,_⟩
 . exact h
 . exact absurd rfl h
theorem ErrR.some {v:Value}{e:Int}{rows:List Row}(h:ErrR v e rows)(he:e≠0):∃ l,l≠[]/\v=chainV l (eno e)/\rows=chainR l (eno e):=by
 rcases h with ⟨h,_⟩ | ⟨_,h⟩
 . exact absurd h he
 . exact h
section
variable (W:World)(B:Nat)
theorem fail_At_nil (s:List UInt8):Spec prog W B 28 [strV s,.nilIface] [] (fun r post=>r=.nilIface/\post=[]):=by
 refine Spec.eG [] func28 ntmps28 fun w0=>?_
 refine CW.go uA 9 rfl (LW.ifaceNil _ rfl underlying43 (.inl ⟨rfl,rfl⟩) rfl ?_)
 refine LW.go uA 15 rfl ?_
 refine NW.r1 ⟨_,⟨rfl,rfl⟩,?_⟩
 exact Sub.nil _
theorem fail_At_ok (s:List UInt8):Spec prog W B 28 [strV s,eno 0] [] (fun r post=>r=.nilIface/\post=[]):=by
 refine Spec.eG [] func28 ntmps28 fun w0=>?_
 refine CW.go uA 9 rfl (LW.ifaceNil _ rfl underlying43 (.inr ⟨⟨_,_,rfl⟩,rfl⟩) rfl ?_)
 refine LW.go uA 6 rfl (LW.ifaceEqInt true rfl rfl underlying43 underlying52 compErrno (beq_iff_eq.2 rfl) rfl ?_)
 refine LW.go uA 11 rfl ?_
 refine NW.r1 ⟨_,⟨rfl,rfl⟩,?_⟩
 exact Sub.nil _
theorem fail_AtN (s:List UInt8)(e:Int):Spec prog W B 28 [strV s,eno e] [] (fun r post=>ErrR r e post):=by
 by_cases he:e=0
 . subst he
   exact (fail_At_ok W B s).mono fun r post ⟨h1,h2⟩=>.inl ⟨rfl,h1,h2⟩
 . exact (fail_At W B s [] e (fun _=>he)).mono fun r post ⟨p,h1,h2⟩=>.inr ⟨he,_,List.cons_ne_nil _ _,h1,h2⟩
theorem fail_AtE (s:List UInt8)(v:Value)(e:Int)(rows:List Row)(h:ErrR v e rows):Spec prog W B 28 [strV s,v] rows (fun r post=>ErrR r e post):=by
 rcases h with ⟨rfl,rfl,rfl⟩ | ⟨he,l,hl,rfl,rfl⟩
 . exact (fail_At_nil W B s).mono fun r post ⟨h1,h2⟩=>.inl ⟨rfl,h1,h2⟩
 . exact (fail_At W B s l e (fun h=>absurd h hl)).mono fun r post ⟨p,h1,h2⟩=>.inr ⟨he,_,List.cons_ne_nil _ _,h1,h2⟩
theorem core_at (v:Value)(e:Int)(rows:List Row)(h:ErrR v e rows):Spec prog W B 32 [v] rows (fun r post=>ErrR r e post):=by
 refine Spec.eG [rows] func32 ntmps32 fun w0=>?_
 refine CW.go uA 8 rfl (LW.cG (fail_AtE W B [99,111,114,101] v e rows h) cl28 ?_)
 rintro r post hr
 refine LW.go uA 4 rfl ?_
 refine NW.r1 ⟨_,hr,?_⟩
 exact (Sub.one .t)
theorem core_atN (e:Int):Spec prog W B 32 [eno e] [] (fun r post=>ErrR r e post):=by
 refine Spec.eG [] func32 ntmps32 fun w0=>?_
 refine CW.go uA 8 rfl (LW.cT (fail_AtN W B [99,111,114,101] e) cl28 ((Take.none _)) ?_)
 rintro r post hr
 refine LW.go uA 4 rfl ?_
 refine NW.r1 ⟨_,hr,?_⟩
 exact (Sub.one .t)
theorem vdb_at (v:Value)(e:Int)(rows:List Row)(h:ErrR v e rows):Spec prog W B 15 [v] rows (fun r post=>ErrR r e post):=by
 refine Spec.eG [rows] func15 ntmps15 fun w0=>?_
 refine CW.go uA 8 rfl (LW.cG (fail_AtE W B [118,100,98] v e rows h) cl28 ?_)
 rintro r post hr
 refine LW.go uA 4 rfl ?_
 refine NW.r1 ⟨_,hr,?_⟩
 exact (Sub.one .t)
theorem code_of (v:Value)(e:Int)(rows:List Row)(h:ErrR v e rows)(he:e≠0)(h0:0<B)(hg:W.cell? ⟨0,0,none⟩=some (rty 43)):Spec prog W B 10 [v] rows (fun r post=>r=.int .i64 e/\post=rows):=by
 obtain⟨l,_,rfl,rfl⟩:=h.some he
 exact fail_Code W B l e h0 hg
end
open Go.RowKit
def itemC (vv:Value)(x:ItemP):List Value:=[.int .i64 x.id,vv,strV x.pay,.int .i64 x.seq,.bool x.gone]
def ItemR (W:World)(B:Nat)(im:List Row)(u:Value)(x:ItemP):Prop:=∃ vv,u=.agg (itemC vv x).toArray/\VecAt W B im vv x.vec
theorem ItemR.more {W:World}{B:Nat}{im im':List Row}{u:Value}{x:ItemP}(h:ItemR W B im u x)(hx:∀ y∈im,y∈im'):ItemR W B im' u x:=by
 obtain⟨vv,h1,h2⟩:=h
 exact⟨vv,h1,SlAt.more h2 hx⟩
theorem itemC_one {vv:Value}(h:vv.oneCell'=true)(x:ItemP):∀ u∈itemC vv x,u.oneCell'=true:=by
 intro u hu
 simp only [itemC,List.mem_cons,List.not_mem_nil,or_false] at hu
 rcases hu with rfl | rfl | rfl | rfl | rfl<;>first | rfl | exact h
def StoOk (s:StoP):Prop:=∀ x∈s,IdOk x.1/\x.2.id=x.1/\VOk x.2.vec
def StoR (W:World)(B:Nat)(im:List Row)(p:Nat)(s:StoP)(rows:List Row):Prop:=
 ∃ mv chm,MapR i64k (ItemR W B im) mv s chm/\rows=[cr p 153 [mv]]++chm/\StoOk s
theorem StoR.more {W:World}{B:Nat}{im im':List Row}{p:Nat}{s:StoP}{rows:List Row}(h:StoR W B im p s rows)(hx:∀ x∈im,x∈im'):StoR W B im' p s rows:=by
 obtain⟨mv,chm,h1,h2⟩:=h
 exact⟨mv,chm,h1.mono fun u x k=>k.more hx,h2⟩
theorem StoR.ok {W:World}{B:Nat}{im:List Row}{p:Nat}{s:StoP}{rows:List Row}(h:StoR W B im p s rows):StoOk s/\(s.map (·.1)).Nodup/\s.length<=1000:=by
 obtain⟨mv,chm,h1,h2,h3⟩:=h
 exact⟨h3,h1.nodup keyInt,ids_len (h1.nodup keyInt) fun x hx=>(h3 x hx).1⟩
theorem StoOk.set {s:StoP}(h:StoOk s){id:Int}{x:ItemP}(hi:IdOk id)(hx:x.id=id)(hv:VOk x.vec):StoOk (aset s id x):=fun y hy=>by
 rcases aset_keys_mem hy with rfl | hy
 . exact⟨hi,hx,hv⟩
 . exact h y hy
theorem StoOk.getD {s:StoP}(h:StoOk s)(id:Int):VOk ((aget s id).getD ItemP.none).vec:=by
 cases ha:aget s id with
 | none=>exact⟨Nat.zero_le _,fun x hx=>by cases hx⟩
 | some x=>exact (h _ (aget_mem ha)).2.2
theorem ItemR.get {W:World}{B:Nat}{im:List Row}{es:List (Int×Value)}{s:StoP}(h:RelM (ItemR W B im) es s)(id:Int) :
  ∃ vv,(mget es id).getD (.agg #[.int .i64 0,.slice none 0 0,.string ⟨#[]⟩,.int .i64 0,.bool false])=.agg (itemC vv ((aget s id).getD ItemP.none)).toArray/\VecAt W B im vv ((aget s id).getD ItemP.none).vec:=by
 cases ha:aget s id with
 | none=>rw [h.none' ha];exact⟨_,rfl,VecAt.none⟩
 | some x=>obtain⟨u,hu,vv,rfl,hv⟩:=h.some' ha;rw [hu];exact⟨vv,rfl,hv⟩
def itsC (l:List (Value×ItemP)):List Value:=l.flatMap fun y=>itemC y.1 y.2
theorem itsC_app (a b:List (Value×ItemP)):itsC (a++b)=itsC a++itsC b:=by simp [itsC]
theorem itsC_at:∀ {l:List (Value×ItemP)} {i:Nat} {x:Value×ItemP},l[i]?=some x->∀ j v,(itemC x.1 x.2)[j]?=some v->(itsC l)[i*5+j]?=some v
 | [],_,_,h,_,_,_=>by cases h
 | y::r,0,x,h,j,v,hj=>by
  simp at h;subst h
  have e:itsC (y::r)=itemC y.1 y.2++itsC r:=rfl
  have hl:=(List.getElem?_eq_some_iff.1 hj).1
  rw [e,Nat.zero_mul,Nat.zero_add,List.getElem?_append_left hl];exact hj
 | y::r,i+1,x,h,j,v,hj=>by
  have e:itsC (y::r)=itemC y.1 y.2++itsC r:=rfl
  have hl:(itemC y.1 y.2).length=5:=rfl
  rw [e,List.getElem?_append_right (by omega),hl,show (i+1)*5+j-5=i*5+j by omega]
  exact itsC_at (by simpa using h) j v hj
section
variable (W:World)(B:Nat)
theorem store_New:Spec prog W B 94 [] [] (fun r post=>∃ p,r=ptr p/\∀ im,StoR W B im p [] post):=by
 refine Spec.eG [] func94 ntmps94 fun w0=>?_
 refine CW.go uA 7 rfl (LW.mapMakeG i64k rfl ?_)
 intro mv chm hom;obtain⟨bm,hbm⟩:=hom.shape;subst hbm
 refine LW.bd [_] (#[.map (some bm)]) ?_
 refine LW.bx ?_
 intro bb3
 refine LW.go uA 4 rfl ?_
 refine NW.ret1 rfl rfl ⟨_,⟨bb3,rfl,fun im=>⟨_,chm,⟨[],hom,RelM.nil⟩,rfl,fun x hx=>(by cases hx)⟩⟩,?_⟩
 exact .s2
theorem store_copied (rows:List Row)(vv:Value)(x:ItemP)(hv:VecAt W B rows vv x.vec)(hx:VOk x.vec) :
  Spec prog W B 72 [.agg (itemC vv x).toArray] rows (fun r post=>∃ u ch,r=.agg (itemC u x).toArray/\VecAt W B ch u x.vec/\post=ch++rows):=by
 have hv1:=hv.one
 have hbx:(Value.agg (itemC vv x).toArray).cells.toList=itemC vv x:=by
  obtain⟨A,cp,rfl,_⟩:=hv
  rfl
 refine Spec.eG [rows] func72 ntmps72 fun w0=>?_
 refine CW.go uA 2 rfl (LW.bx ?_)
 intro bb1
 refine LW.alloc zero36 rfl ?_
 intro ba2
 refine LW.go uA 3 rfl ?_
 rw [hbx]
 refine CW.go uA 2 rfl (LW.load (v:=vv) rfl .t (rfl) one25 rfl ?_)
 refine LW.cG (vect_Copy W B rows vv x.vec hv (by have:=hx.1;omega)) cl136 ?_
 rintro r _ ⟨ch,ho,rfl⟩;refine LW.splitA ?_
 refine LW.go uA 1 rfl (LW.store rfl rfl .t (by show (1:Nat)<5;decide) sz25 (ho.one) ?_)
 refine LW.go uA 4 rfl (LW.loadAgg (itemC r x) rfl .t (fun j v hj=>by show (itemC r x)[0+j]?=_;rw [Nat.zero_add];exact hj) underlying36 rfl (sze szt36) rfl ?_)
 refine LW.sA (itemC r x) szt36 (itemC_one ho.one x) ?_
 refine LW.go uA 3 rfl ?_
 refine NW.res1 rfl (.cell (itemC r x) rfl .t zd underlying36 rfl szt36) ⟨_,⟨r,ch,rfl,ho.vec,rfl⟩,?_⟩
 exact .s2
theorem store_Put (p:Nat)(s:StoP)(rows im:List Row)(id:Int)(v:Value)(xs:List Int)(pay:List UInt8)(seq:Int)(hs:StoR W B im p s rows)(hv:VecAt W B im v xs)(hx:VOk xs)(he:stoPutE s id pay seq=0) :
   Spec prog W B 48 [ptr p,.int .i64 id,v,strV pay,.int .i64 seq] (rows++im) (fun r post=>r=.nilIface/\∃ rows' ch,StoR W B (ch++im) p (stoPut s id xs pay seq) rows'/\post=rows'++(ch++im)):=by
 obtain⟨mv,chm,⟨es,hom,hrel⟩,rfl,hok⟩:=hs
 have hv':=hv
 obtain⟨A,cp,rfl,_⟩:=hv'
 unfold stoPutE at he
 split at he
 . cases he
 rename_i h1
 split at he
 . cases he
 rename_i h2
 split at he
 . cases he
 rename_i h3
 refine Spec.eG [[cr p 153 [mv]],chm,im] func48 ntmps48 fun w0=>?_
 refine CW.go uA 10 rfl (LW.pn underlying90 ?_)
 refine LW.go uA 7 rfl (LW.lssF ?_)
 refine LW.go uA 4 rfl (LW.gtrF ?_)
 refine LW.go uA 8 rfl (LW.lenString rfl underlying9 rfl ?_)
 refine LW.gtr false rfl rfl (decide_eq_false (by show ¬ ((pay.length:Int)>40);omega)) rfl ?_
 refine LW.go uA 10 rfl (LW.ld one151 ?_)
 refine LW.go uA 1 rfl ?_
 obtain⟨vv,hgv,hvv⟩:=ItemR.get hrel id
 refine LW.mapLookG false ( (mget es id)) rfl rfl keyInt (hom) .t underlying151 underlying3 zero36 (rfl) rfl ?_
 rw [show (if false=true then Value.tuple #[(mget es id).getD (.agg #[.int .i64 0,.slice none 0 0,.string ⟨#[]⟩,.int .i64 0,.bool false]),.bool (mget es id).isSome] else (mget es id).getD (.agg #[.int .i64 0,.slice none 0 0,.string ⟨#[]⟩,.int .i64 0,.bool false]))=.agg (itemC vv ((aget s id).getD ItemP.none)).toArray from hgv]
 refine LW.fieldV rfl (fun _=>fv36_3 _ _ _ _ _ _) rfl ?_
 refine LW.leq false rfl rfl (decide_eq_false h3) rfl ?_
 refine LW.go uA 8 rfl (CW.drawH [cr p 153 [mv]] mixed ?_)
 refine AW.ts [0,1,2,3,4,5,6,7,8,9] 2 (TW.mv ?_)
 refine TW.np ?_
 refine TW.fa fa153_0 ?_
 refine TW.ld one151 ?_
 refine TW.mv ?_
 refine TW.mv ?_
 refine TW.mv ?_
 refine TW.mv ?_
 refine TW.mv ?_
 refine TW.take rfl (Yl.build (vs:=[_,_,_,_]) (#[.int .i64 id,.slice A xs.length cp,strV pay,.int .i64 seq,.bool false]) ⟨rfl,rfl,rfl,rfl,trivial⟩ (by kernel_rfl)) rfl ?_
 refine TW.nil (AW.a 10 ?_)
 refine LW.cG (store_copied W B im (.slice A xs.length cp) ⟨id,xs,pay,seq,false⟩ hv hx) cl72 ?_
 rintro _ _ ⟨u,ch,rfl,hu,rfl⟩;refine LW.splitA ?_
 refine LW.nil (AW.b (AW.a 11 ?_))
 refine LW.mapSetG rfl rfl rfl keyInt (hom) .t underlying151 underlying3 ?_
 intro chm' hom'
 refine LW.nil (AW.b (AW.d ?_))
 refine NW.go uA 7 rfl ?_
 refine NW.ret1 rfl rfl ⟨_,⟨rfl,[cr p 153 [mv]]++chm',ch,⟨mv,chm',⟨_,hom',RelM.set ⟨u,rfl,hu.left⟩ (hrel.mono fun u x k=>k.more fun y hy=>List.mem_append_right _ hy)⟩,rfl,hok.set (by unfold IdOk;omega) rfl hx⟩,rfl⟩,?_⟩
 simp only [List.append_assoc];exact .s4
theorem stoGet_of (s:StoP)(id:Int):(stoGet s id=none/\(aget s id).isSome=false)\/(stoGet s id=none/\(aget s id).isSome=true/\((aget s id).getD ItemP.none).gone=true)\/((aget s id).isSome=true/\((aget s id).getD ItemP.none).gone=false/\stoGet s id=some ((aget s id).getD ItemP.none)):=by
 unfold stoGet
 cases ha:aget s id with
 | none=>exact .inl ⟨rfl,rfl⟩
 | some x=>
  cases hg:x.gone
  . exact .inr (.inr ⟨rfl,hg,by simp [hg]⟩)
  . exact .inr (.inl ⟨by simp [hg],rfl,hg⟩)
theorem store_Get (p:Nat)(s:StoP)(rows im:List Row)(id:Int)(hs:StoR W B im p s rows) :
   Spec prog W B 35 [ptr p,.int .i64 id] (rows++im) (fun r post=>∃ u ch,r=.tuple #[.agg (itemC u ((stoGet s id).getD ItemP.none)).toArray,.bool (stoGet s id).isSome]/\VecAt W B ch u ((stoGet s id).getD ItemP.none).vec/\post=ch++(rows++im)):=by
 obtain⟨mv,chm,⟨es,hom,hrel⟩,rfl,hok⟩:=hs
 obtain⟨vv,hgv,hvv⟩:=ItemR.get hrel id
 have hvo:=hok.getD id
 have hgs:=stoGet_of s id
 generalize hst:(aget s id).getD ItemP.none=x at *
 rcases hgs with ⟨hn,ha⟩ | ⟨hn,ha,hg⟩ | ⟨ha,hg,hse⟩
 . rw [hn]
   refine Spec.eG [[cr p 153 [mv]],chm,im] func35 ntmps35 fun w0=>?_
   refine CW.go uA 2 rfl (LW.alloc zero36 rfl ?_)
   intro ba4
   refine LW.go uA 7 rfl (LW.pn underlying90 ?_)
   refine LW.go uA 10 rfl (LW.ld one151 ?_)
   refine LW.go uA 1 rfl (LW.mapLookG true ( (mget es id)) rfl rfl keyInt (hom) .t underlying151 underlying3 zero36 (rfl) rfl ?_)
   rw [hgv,hrel.isSome,ha]
   refine LW.go uA 3 rfl (LW.alloc zero36 rfl ?_)
   intro ba6
   refine LW.sA (itemC vv x) szt36 (itemC_one hvv.one x) ?_
   refine LW.go uA 17 rfl (LW.build (vs:=[]) (#[.int .i64 0,.slice none 0 0,.string ⟨#[]⟩,.int .i64 0,.bool false]) trivial (by kernel_rfl) rfl ?_)
   refine LW.sA (itemC (.slice none 0 0) ItemP.none) szt36 (itemC_one rfl ItemP.none) ?_
   refine LW.go uA 5 rfl ?_
   refine NW.res2 rfl (.cell (itemC (.slice none 0 0) ItemP.none) rfl .t zd underlying36 rfl szt36) (.tmp rfl) ⟨_,⟨_,[],rfl,VecAt.none,rfl⟩,?_⟩
   simp only [List.append_assoc,List.nil_append];exact .s3
 . rw [hn]
   refine Spec.eG [[cr p 153 [mv]],chm,im] func35 ntmps35 fun w0=>?_
   refine CW.go uA 2 rfl (LW.alloc zero36 rfl ?_)
   intro ba4
   refine LW.go uA 7 rfl (LW.pn underlying90 ?_)
   refine LW.go uA 10 rfl (LW.ld one151 ?_)
   refine LW.go uA 1 rfl (LW.mapLookG true ( (mget es id)) rfl rfl keyInt (hom) .t underlying151 underlying3 zero36 (rfl) rfl ?_)
   rw [hgv,hrel.isSome,ha]
   refine LW.go uA 3 rfl (LW.alloc zero36 rfl ?_)
   intro ba6
   refine LW.sA (itemC vv x) szt36 (itemC_one hvv.one x) ?_
   refine LW.go uA 12 rfl (LW.load (v:=.bool true) rfl .t (by rw [<- hg];rfl) one4 rfl ?_)
   refine LW.go uA 6 rfl (LW.build (vs:=[]) (#[.int .i64 0,.slice none 0 0,.string ⟨#[]⟩,.int .i64 0,.bool false]) trivial (by kernel_rfl) rfl ?_)
   refine LW.sA (itemC (.slice none 0 0) ItemP.none) szt36 (itemC_one rfl ItemP.none) ?_
   refine LW.go uA 5 rfl ?_
   refine NW.res2 rfl (.cell (itemC (.slice none 0 0) ItemP.none) rfl .t zd underlying36 rfl szt36) (.tmp rfl) ⟨_,⟨_,[],rfl,VecAt.none,rfl⟩,?_⟩
   simp only [List.append_assoc,List.nil_append];exact .s3
 . rw [hse]
   refine Spec.eG [[cr p 153 [mv]],chm,im] func35 ntmps35 fun w0=>?_
   refine CW.go uA 2 rfl (LW.alloc zero36 rfl ?_)
   intro ba4
   refine LW.go uA 7 rfl (LW.pn underlying90 ?_)
   refine LW.go uA 10 rfl (LW.ld one151 ?_)
   refine LW.go uA 1 rfl (LW.mapLookG true ( (mget es id)) rfl rfl keyInt (hom) .t underlying151 underlying3 zero36 (rfl) rfl ?_)
   rw [hgv,hrel.isSome,ha]
   refine LW.go uA 3 rfl (LW.alloc zero36 rfl ?_)
   intro ba6
   refine LW.sA (itemC vv x) szt36 (itemC_one hvv.one x) ?_
   refine LW.go uA 12 rfl (LW.load (v:=.bool false) rfl .t (by rw [<- hg];rfl) one4 rfl ?_)
   refine LW.go uA 8 rfl (LW.lA (itemC vv x) underlying36 szt36 ?_)
   refine LW.cG (store_copied W B im vv x hvv hvo) cl72 ?_
   rintro _ _ ⟨u,ch,rfl,hu,rfl⟩;refine LW.splitA ?_
   refine LW.sA (itemC u x) szt36 (itemC_one hu.one x) ?_
   refine LW.go uA 4 rfl ?_
   refine NW.res2 rfl (.cell (itemC u x) rfl .t zd underlying36 rfl szt36) (.tmp rfl) ⟨_,⟨u,ch,rfl,hu,rfl⟩,?_⟩
   simp only [List.append_assoc];exact .s4
theorem sI_item {s:StoP}{i:Nat}(h:i<s.length):∃ id,(sI (s.map (·.1)))[i]?=some id/\(stoItems s)[i]?=some ((aget s id).getD ItemP.none):=by
 obtain⟨id,x,h1,h2⟩:=sI_at h
 exact⟨id,h1,by unfold stoItems;rw [List.getElem?_map,h1];rfl⟩
theorem stoItems_len (s:StoP):(stoItems s).length=s.length:=by rw [stoItems,List.length_map,sI_len]
theorem store_Items (p:Nat)(s:StoP)(rows im:List Row)(hs:StoR W B im p s rows) :
   Spec prog W B 79 [ptr p] (rows++im) (fun r post=>∃ (its:List (Value×ItemP)) (ch bag:List Row),OwnS 36 5 r its.length (itsC its) ch/\its.map (·.2)=stoItems s/\(∀ y∈its,VecAt W B bag y.1 y.2.vec)/\post=ch++(bag++(rows++im))):=by
 have hsl:=hs.ok.2.2
 obtain⟨mv,chm,hmr,rfl,hok⟩:=hs
 have hmr':=hmr
 obtain⟨es,hom,hrel⟩:=hmr
 have hil:=stoItems_len s
 refine Spec.eG [[cr p 153 [mv]],chm,im] func79 ntmps79 fun w0=>?_
 refine CW.go uA 9 rfl (LW.pn underlying90 ?_)
 refine LW.go uA 16 rfl (LW.ld one151 ?_)
 refine LW.cT (keys_151 W B mv (map_cells hom)) cl151 ((Take.none _)) ?_
 rintro _ _ ⟨bx,rfl,rfl⟩
 refine LW.cT (sk_151 W B bx _ mv s chm hmr' (fun x hx=>(hok x hx).1)) cl150 .n2 ?_
 rintro r1 _ ⟨c1,ho1,rfl⟩;obtain⟨A1,cp1,rfl,hA1,hc1⟩:=ho1.val;refine LW.splitA (LW.splitB ?_)
 have hs1:=ho1.src (W:=W) (B:=B)
 refine LW.addNil (a:=[]) rfl (LW.addNil (a:=[]) rfl ?_)
 refine LW.go uA 5 rfl ?_
 refine CW.loopG (fun st:Nat×Value×List (Value×ItemP)×List Row×List Row=>[(15,iN st.1),(14,iN s.length),(13,.slice A1 s.length cp1),(3,st.2.1),(0,ptr p)]) (fun st=>[st.2.2.2.1,st.2.2.2.2,[cr p 153 [mv]],chm,c1,im]) (fun st=>st.1<=s.length/\OwnS 36 5 st.2.1 st.1 (itsC st.2.2.1) st.2.2.2.1/\st.2.2.1.map (·.2)=(stoItems s).take st.1/\∀ y∈st.2.2.1,VecAt W B st.2.2.2.2 y.1 y.2.vec) (fun st=>s.length-st.1) (0,.slice none 0 0,[],[],[]) (by exact⟨Nat.zero_le _,OwnS.nil,rfl,fun x hx=>(by cases hx)⟩) rfl (by repeat' constructor) ?_
 rintro⟨i,v,its,ch,bag⟩ ⟨hi,ho,hit,hiv⟩;dsimp only at hi ho hit hiv |-
 refine CW.go uA 2 rfl (LW.lss (decide ((i:Int)<(s.length:Int))) rfl rfl (rfl) rfl ?_)
 refine LW.go uA 3 rfl ?_
 refine CW.cond rfl (fun hc16=>?_) (fun hc16=>?_)
 . have hin:i<s.length:=oT hc16
   obtain⟨id,hid,hii⟩:=sI_item hin
   obtain⟨vv,hgv,hvv⟩:=ItemR.get hrel id
   have hvo:=hok.getD id
   generalize (aget s id).getD ItemP.none=x at hii hgv hvv hvo
   obtain⟨a1,rfl⟩:∃ x,A1=some x:=smA hA1
   refine CW.go uA 6 rfl (LW.indexAt rfl rfl underlying85 ixs85 (by omega) (by omega) rfl ?_)
   refine LW.loadRd (v:=.int .i64 id) rfl (hs1.rd .t) (i64k_at hid) one3 rfl ?_
   refine LW.go uA 8 rfl (LW.ld one151 ?_)
   refine LW.go uA 1 rfl (LW.mapLookG false ( (mget es id)) rfl rfl keyInt (hom) .t underlying151 underlying3 zero36 (rfl) rfl ?_)
   rw [show (if false=true then Value.tuple #[(mget es id).getD (.agg #[.int .i64 0,.slice none 0 0,.string ⟨#[]⟩,.int .i64 0,.bool false]),.bool (mget es id).isSome] else (mget es id).getD (.agg #[.int .i64 0,.slice none 0 0,.string ⟨#[]⟩,.int .i64 0,.bool false]))=.agg (itemC vv x).toArray from hgv]
   refine LW.cG (store_copied W B im vv x hvv hvo) cl72 ?_
   rintro _ _ ⟨u,c26,rfl,hu,rfl⟩;refine LW.splitA ?_
   refine LW.buildSliceA [itemC u x] ⟨rfl,trivial⟩ rfl (by intro v hv;simp at hv;subst hv;rfl) (by decide) underlying163 info36 rfl (by decide) (by decide) rfl ?_
   intro bs27
   refine LW.append (itemC u x) rfl rfl underlying163 underlying163 (.inr ⟨_,rfl⟩) info36 rfl (ho) .t (fun _=>by obtain⟨A7,cp7,he7,_⟩:=ho.val;exact lenOf_slice _ _ _ _) (first_rd (RdAt.row .t (fun j v hj=>by simpa using hj)) rfl (fun h=>by cases h)) (rfl) (itemC_one hu.one x) (by omega) (by omega) rfl ?_
   intro v' ch' ho';refine LW.front (p:=bag) .t (LW.front (p:=c26) .t (LW.unfoc (a:=c26++bag) (List.Perm.refl _) ?_))
   refine LW.go uA 5 rfl (LW.ad ((i+1:Int)) ?_)
   exact LW.go uA 2 rfl (NW.mG ((i+1,v',its++[(u,x)],ch',c26++bag)) (by exact⟨⟨by omega,by dsimp only;rw [itsC_app];simpa [itsC] using ho',by dsimp only;rw [List.map_append,hit,List.take_add_one,hii];rfl,by dsimp only;intro y hy;rcases List.mem_append.1 hy with hy | hy;exact (hiv y hy).right;(simp at hy;subst hy;exact hu.left)⟩,by dsimp only;omega⟩))
 . have hin:i=s.length:=oF hc16
   rw [hin,List.take_of_length_le (by omega)] at hit
   refine CW.go uA 2 rfl (NW.then_exit (NW.go uA 9 rfl ?_))
   refine NW.ret1 rfl rfl ⟨_,⟨its,ch,bag,by have h9:=congrArg List.length hit;rw [List.length_map,hil] at h9;rw [h9,<- hin];exact ho,hit,hiv,rfl⟩,?_⟩
   simp only [List.append_assoc];exact .s5
theorem filt_snoc {α:Type}(f:α->Bool){l:List α}{i:Nat}{x:α}(h:l[i]?=some x):((l.take (i+1)).filter f).length=((l.take i).filter f).length+if f x=true then 1 else 0:=by
 rw [List.take_add_one,h,List.filter_append,List.length_append]
 congr 1
 simp only [Option.toList_some,List.filter_cons,List.filter_nil]
 split<;>rfl
theorem store_Len (p:Nat)(s:StoP)(rows im:List Row)(hs:StoR W B im p s rows) :
   Spec prog W B 37 [ptr p] (rows++im) (fun r post=>r=.int .i64 (stoLen s:Int)/\post=rows++im):=by
 have hsl:=hs.ok.2.2
 have hil:=stoItems_len s
 refine Spec.eG [rows++im] func37 ntmps37 fun w0=>?_
 refine CW.go uA 14 rfl (LW.cG (store_Items W B p s rows im hs) cl79 ?_)
 rintro r _ ⟨its,ch,bag,ho,hit,hiv,rfl⟩;obtain⟨A,cp,rfl,hA,hcp⟩:=ho.val;refine LW.splitA (LW.splitB ?_)
 have hs1:=ho.src (W:=W) (B:=B)
 have hll:its.length=s.length:=by have h9:=congrArg List.length hit;rw [List.length_map,hil] at h9;exact h9
 refine LW.go uA 5 rfl ?_
 refine CW.loopG (fun st:Nat×Nat=>[(9,iN st.1),(8,iN its.length),(7,.slice A its.length cp),(3,iN st.2)]) (fun _=>[ch,bag,rows++im]) (fun st=>st.1<=its.length/\st.2=(((stoItems s).take st.1).filter fun i=>!i.gone).length/\st.2<=st.1) (fun st=>its.length-st.1) (0,0) (by exact⟨Nat.zero_le _,rfl,Nat.le_refl _⟩) rfl (by repeat' constructor) ?_
 rintro⟨i,n⟩ ⟨hi,hn,hni⟩;dsimp only at hi hn hni |-
 refine CW.go uA 2 rfl (LW.lss (decide ((i:Int)<(its.length:Int))) rfl rfl (rfl) rfl ?_)
 refine LW.go uA 3 rfl ?_
 refine CW.cond rfl (fun hc10=>?_) (fun hc10=>?_)
 . have hin:i<its.length:=oT hc10
   obtain⟨y,hyi,_⟩:=drop_at hin
   obtain⟨a,rfl⟩:∃ x,A=some x:=smA hA
   have hyx:(stoItems s)[i]?=some y.2:=by rw [<- hit,List.getElem?_map,hyi];rfl
   have hsn:=filt_snoc (fun i:ItemP=>!i.gone) hyx
   have hyv:=hiv y (List.mem_of_getElem? hyi)
   refine CW.go uA 6 rfl (LW.indexAt rfl rfl underlying163 ixs163 (by omega) (by omega) rfl ?_)
   refine LW.loadAggRd (itemC y.1 y.2) rfl (hs1.rd .t) (by show (0:Nat)<5;decide) (by rw [Int.toNat_natCast];exact itsC_at hyi) underlying36 rfl szt36 rfl ?_
   refine LW.alloc zero36 rfl ?_
   intro ba5
   refine LW.sA (itemC y.1 y.2) szt36 (itemC_one hyv.one y.2) ?_
   refine LW.go uA 5 rfl (LW.load (v:=.bool y.2.gone) rfl .t (rfl) one4 rfl ?_)
   refine LW.go uA 3 rfl ?_
   refine CW.cond rfl (fun hc15=>?_) (fun hc15=>?_)
   . have hgn:y.2.gone=false:=by simpa using hc15
     rw [hgn] at hsn
     refine CW.go uA 2 rfl (LW.ad (((n+1:Nat):Int)) ?_)
     refine LW.go uA 5 rfl (LW.ad ((i+1:Int)) ?_)
     exact LW.go uA 2 rfl (NW.mG ((i+1,n+1)) (by exact⟨⟨by omega,by dsimp only;rw [hsn,hn];rfl,by dsimp only;omega⟩,by dsimp only;omega⟩))
   . have hgn:y.2.gone=true:=by simpa using hc15
     rw [hgn] at hsn
     refine CW.go uA 4 rfl (LW.ad ((i+1:Int)) ?_)
     exact LW.go uA 2 rfl (NW.mG ((i+1,n)) (by exact⟨⟨by omega,by dsimp only;rw [hsn,hn];rfl,by dsimp only;omega⟩,by dsimp only;omega⟩))
 . have hin:i=its.length:=oF hc10
   have hfin:n=stoLen s:=by rw [hn,hin,List.take_of_length_le (by omega)];rfl
   refine CW.go uA 2 rfl (NW.then_exit (NW.go uA 9 rfl ?_))
   refine NW.ret1 rfl rfl ⟨_,⟨by rw [<- hfin],rfl⟩,?_⟩
   exact (Sub.one .t)
end
end Go.Proofs.YtnlpccoigflheaaGreatDoor
