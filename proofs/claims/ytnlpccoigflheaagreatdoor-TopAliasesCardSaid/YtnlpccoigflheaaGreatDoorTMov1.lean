/- TIdx TMov1 -/
import Derived.Test.YtnlpccoigflheaaGreatDoorTMisc
import Derived.Test.YtnlpccoigflheaaGreatDoorTGra5
import Derived.Test.YtnlpccoigflheaaGreatDoorFac
namespace Go.Proofs.YtnlpccoigflheaaGreatDoor
open Go.RowKit
open Go.Proofs.Tryz
def TuD:Tbl:=⟨[(36,0,0),(36,4,4),(161,0,0),(161,2,2),(161,3,3),(161,4,4),(161,5,5),(161,6,6)],[],[22,163]⟩
theorem uD:TuD.Ok Tryz.prog:=.of (⟨⟨_,Tryz.underlying22⟩,⟨_,Tryz.underlying163⟩,trivial⟩)
abbrev np:Value:=.pointer none
def IxR (W:World)(B:Nat)(im:List Row)(m:Int)(dim:Nat):IxP->Value->Value->Value->Value->List Row->Prop
 | .flat l,a,b,c,d,rows=>∃ q,a=ptr q/\b=np/\c=np/\d=np/\FlatR W B im q m l rows
 | .ivf ms l,a,b,c,d,rows=>∃ q,a=np/\b=ptr q/\c=np/\d=np/\IvfR W B im q m ms l rows
 | .graph g,a,b,c,d,rows=>∃ q,a=np/\b=np/\c=ptr q/\d=np/\GraR W B im q m g rows
 | .coded los sts l,a,b,c,d,rows=>∃ q,a=np/\b=np/\c=np/\d=ptr q/\CodR W B im q m los sts l rows/\los.length=dim
def IdxR (W:World)(B:Nat)(im:List Row)(p:Nat)(x:IdxP)(rows:List Row):Prop:=
 ∃ a b c d sub,IxR W B im x.metric x.dim x.x a b c d sub/\rows=[cr p 161 [.int .i64 x.x.kind,.int .i64 x.metric,iN x.dim,a,b,c,d]]++sub/\MetOk x.metric/\1<=x.dim/\x.dim<=8
theorem IxR.more {W:World}{B:Nat}{im im':List Row}{m:Int}{dim:Nat}{x:IxP}{a b c d:Value}{rows:List Row}(h:IxR W B im m dim x a b c d rows)(hx:∀ y∈im,y∈im'):IxR W B im' m dim x a b c d rows:=by
 cases x with
 | flat l=>obtain⟨q,h1,h2,h3,h4,h5⟩:=h;exact⟨q,h1,h2,h3,h4,h5.more hx⟩
 | ivf ms l=>obtain⟨q,h1,h2,h3,h4,h5⟩:=h;exact⟨q,h1,h2,h3,h4,h5.more hx⟩
 | graph g=>obtain⟨q,h1,h2,h3,h4,h5⟩:=h;exact⟨q,h1,h2,h3,h4,h5.more hx⟩
 | coded los sts l=>obtain⟨q,h1,h2,h3,h4,h5,h6⟩:=h;exact⟨q,h1,h2,h3,h4,h5.more hx,h6⟩
theorem IdxR.more {W:World}{B:Nat}{im im':List Row}{p:Nat}{x:IdxP}{rows:List Row}(h:IdxR W B im p x rows)(hx:∀ y∈im,y∈im'):IdxR W B im' p x rows:=by
 obtain⟨a,b,c,d,sub,h1,h2⟩:=h
 exact⟨a,b,c,d,sub,h1.more hx,h2⟩
section
variable (W:World)(B:Nat)
theorem idx_known (kind m dim:Int)(h1:1<=kind)(h4:kind<=4)(hm:MetOk m)(hd1:1<=dim)(hd8:dim<=8):Spec prog W B 161 [.int .i64 kind,.int .i64 m,.int .i64 dim] [] (fun r post=>r=.int .i64 0/\post=[]):=by
 have hk:(decide (m=1) || decide (m=2))=true:=by rcases hm with rfl | rfl<;>rfl
 refine Spec.eG [] func161 ntmps161 fun w0=>?_
 refine CW.go uD 10 rfl (LW.lssF ?_)
 refine LW.go uD 4 rfl (LW.gtrF ?_)
 refine LW.go uD 5 rfl (LW.eT (metric_Known W B m) cl153 ((Take.none _)) ?_)
 rw [hk]
 refine LW.go uD 10 rfl (LW.lssF ?_)
 refine LW.go uD 4 rfl (LW.gtrF ?_)
 refine LW.go uD 14 rfl ?_
 refine NW.r1 ⟨_,⟨rfl,rfl⟩,?_⟩
 exact Sub.nil _
theorem idx_Kind (p:Nat)(x:IdxP)(rows im:List Row)(hx:IdxR W B im p x rows):Spec prog W B 103 [ptr p] rows (fun r post=>r=.int .i64 x.x.kind/\post=rows):=by
 obtain⟨a,b,c,d,sub,hix,rfl,_⟩:=hx
 refine Spec.eG [[cr p 161 [.int .i64 x.x.kind,.int .i64 x.metric,iN x.dim,a,b,c,d]],sub] func103 ntmps103 fun w0=>?_
 refine CW.go uD 9 rfl (LW.pn underlying91 ?_)
 refine LW.go uD 10 rfl (LW.ld one3 ?_)
 refine LW.go uD 4 rfl ?_
 refine NW.r1 ⟨_,⟨rfl,rfl⟩,?_⟩
 exact .s2
def mayOf (dim:Nat)(vs:List (Value×List Int)):List (Value×List Int):=vs.filter fun x=>mayV x.2 (dim:Int)
theorem may_snoc {dim:Nat}{vs:List (Value×List Int)}{j:Nat}{x:Value×List Int}(h:vs[j]?=some x):mayOf dim (vs.take (j+1))=mayOf dim (vs.take j)++if mayV x.2 (dim:Int)=true then [x] else []:=by
 unfold mayOf
 rw [List.take_add_one,h,List.filter_append]
 congr 1
 simp only [Option.toList_some,List.filter_cons,List.filter_nil]
theorem may_len (dim:Nat)(vs:List (Value×List Int)):(mayOf dim vs).length<=vs.length:=List.length_filter_le _ _
theorem may_all {dim:Nat}{vs:List (Value×List Int)}:∀ x∈mayOf dim vs,mayV x.2 (dim:Int)=true:=fun x hx=>(List.mem_filter.1 hx).2
theorem may_mem {dim:Nat}{vs:List (Value×List Int)}{x:Value×List Int}(hx:x∈mayOf dim vs):x∈vs:=(List.mem_filter.1 hx).1
theorem may_in {dim:Nat}(h8:dim<=8){vs:List (Value×List Int)}:VecsIn ((mayOf dim vs).map (·.2)):=fun x hx=>by
 obtain⟨q,hq,rfl⟩:=List.mem_map.1 hx
 have:=mayV_of (may_all q hq)
 exact⟨by omega,this.2⟩
set_option maxHeartbeats 1000000 in
theorem idx_New (kind m:Int)(dim:Nat)(rows:List Row)(v:Value)(vs:List (Value×List Int))(h1:1<=kind)(h4:kind<=4)(hm:MetOk m)(hd1:1<=dim)(hd8:dim<=8)(hv:VecsAt W B rows v vs)(hn:vs.length<=1000)(hlen:∀ x∈vs,x.2.length<=1000) :
   Spec prog W B 93 [.int .i64 kind,.int .i64 m,iN dim,v] rows (fun r post=>∃ p rows' bag,r=.tuple #[ptr p,.nilIface]/\IdxR W B bag p (idxNew kind m dim ((mayOf dim vs).map (·.2))) rows'/\post=rows'++(bag++rows)):=by
 obtain⟨⟨A,cp,rfl,hcp,hl,hsrc,hA⟩,hvv⟩:=hv
 refine Spec.eG [rows] func93 ntmps93 fun w0=>?_
 refine CW.go uD 12 rfl (LW.eT (idx_known W B kind m dim h1 h4 hm (by omega) (by omega)) cl161 ((Take.none _)) ?_)
 refine LW.go uD 6 rfl (LW.neq false rfl rfl (rfl) rfl ?_)
 refine LW.go uD 12 rfl (CW.addNil (a:=[]) rfl ?_)
 refine CW.go uD 7 rfl ?_
 refine CW.loopG (fun st:Nat×Value×List Row=>[(25,iN st.1),(24,iN vs.length),(23,.slice A vs.length cp),(11,st.2.1),(0,.int .i64 kind),(1,.int .i64 m),(2,iN dim)]) (fun st=>[st.2.2,rows]) (fun st=>st.1<=vs.length/\OwnS 25 1 st.2.1 (mayOf dim (vs.take st.1)).length ((mayOf dim (vs.take st.1)).map (·.1)) st.2.2) (fun st=>vs.length-st.1) (0,.slice none 0 0,[]) (by exact⟨Nat.zero_le _,OwnS.nil⟩) rfl (by repeat' constructor) ?_
 rintro⟨j,u,ch⟩ ⟨hj,ho⟩;dsimp only at hj ho |-
 refine CW.go uD 2 rfl (LW.lss (decide ((j:Int)<(vs.length:Int))) rfl rfl (rfl) rfl ?_)
 refine LW.go uD 3 rfl ?_
 refine CW.cond rfl (fun hc26=>?_) (fun hc26=>?_)
 . have hjn:j<vs.length:=oT hc26
   obtain⟨x,hxj,hxd⟩:=drop_at hjn
   obtain⟨a1,rfl⟩:∃ x,A=some x:=smA hA
   have hxm:=List.mem_of_getElem? hxj
   have hxv:=hvv x hxm
   have hx1:=hxv.one
   have hg:(vs.map (·.1))[((j:Nat):Int).toNat*1]?=some x.1:=by rw [Int.toNat_natCast,Nat.mul_one,List.getElem?_map,hxj];rfl
   have hsn:=may_snoc (dim:=dim) hxj
   have hml:=may_len dim (vs.take j)
   rw [List.length_take] at hml
   refine CW.go uD 6 rfl (LW.indexAt rfl rfl underlying22 ixs22 (by omega) (by omega) rfl ?_)
   refine LW.loadRd (v:=x.1) rfl (hsrc.rd .t) (hg) one25 rfl ?_
   refine LW.go uD 7 rfl (LW.eG (vect_May W B rows x.1 x.2 (dim:Int) hxv (by have:=hlen x hxm;omega)) cl74 ?_)
   refine LW.go uD 2 rfl ?_
   refine CW.cond rfl (fun hc31=>?_) (fun hc31=>?_)
   . rw [if_pos hc31] at hsn
     refine CW.go uD 3 rfl (LW.buildSlice (vs:=[_]) ⟨rfl,trivial⟩ rfl (by intro v hv;simp at hv;subst hv;exact hx1) underlying22 info25 rfl (by decide) (by decide) rfl ?_)
     intro bs34
     refine LW.append ([x.1]) rfl rfl underlying22 underlying22 (.inr ⟨_,rfl⟩) info25 rfl (ho) .t (fun _=>by obtain⟨A7,cp7,he7,_⟩:=ho.val;exact lenOf_slice _ _ _ _) (first_rd (RdAt.row .t (fun j v hj=>by simpa using hj)) rfl (fun h=>by cases h)) (rfl) (by intro u hu;simp at hu;subst hu;exact hx1) (by omega) (by omega) rfl ?_
     intro v' ch' ho'
     refine LW.go uD 5 rfl (LW.ad ((j+1:Int)) ?_)
     exact LW.go uD 2 rfl (NW.mG ((j+1,v',ch')) (by exact⟨⟨by omega,by dsimp only;rw [hsn,List.length_append,List.map_append];exact ho'⟩,by dsimp only;omega⟩))
   . rw [if_neg (by rw [hc31];decide),List.append_nil] at hsn
     refine CW.go uD 4 rfl (LW.ad ((j+1:Int)) ?_)
     exact LW.go uD 2 rfl (NW.mG ((j+1,u,ch)) (by exact⟨⟨by omega,by dsimp only;rw [hsn];exact ho⟩,by dsimp only;omega⟩))
 . have hjn:j=vs.length:=oF hc26
   rw [hjn,List.take_length] at ho
   have hml:=may_len dim vs
   have hvs:VecsAt W B (ch++rows) u (mayOf dim vs):=⟨ho.sl.more fun y hy=>List.mem_append_left _ hy,fun y hy=>(hvv y (may_mem hy)).right⟩
   refine CW.go uD 2 rfl (NW.then_exit (NW.go uD 7 rfl (LW.bd [_,_,_] (#[.int .i64 kind,.int .i64 m,iN dim,np,np,np,np]) ?_)))
   refine LW.bx ?_
   intro bb41
   refine LW.go uD 12 rfl (LW.eql ((kind==1)) rfl rfl (rfl) rfl ?_)
   refine LW.go uD 3 rfl ?_
   refine CW.cond rfl (fun hc43=>?_) (fun hc43=>?_)
   . obtain rfl:kind=1:=by simpa using hc43
     refine CW.go uD 3 rfl (LW.cT (flat_New W B m hm) cl162 ((Take.none _)) ?_)
     rintro _ rf ⟨q,rfl,hf⟩
     refine LW.go uD 2 rfl (LW.sr sz156 ?_)
     refine LW.go uD 11 rfl ?_
     refine NW.ret2 rfl rfl rfl ⟨_,⟨bb41,[cr bb41 161 [.int .i64 1,.int .i64 m,iN dim,ptr q,np,np,np]]++rf,[],rfl,⟨_,_,_,_,rf,⟨q,rfl,rfl,rfl,rfl,hf _⟩,rfl,hm,hd1,hd8⟩,rfl⟩,?_⟩
     simp only [List.append_assoc,List.nil_append];exact .s3
   . have hk1:kind≠1:=by simpa using hc43
     refine CW.go uD 2 rfl (LW.eql ((kind==2)) rfl rfl (rfl) rfl ?_)
     refine LW.go uD 3 rfl ?_
     refine CW.cond rfl (fun hc50=>?_) (fun hc50=>?_)
     . obtain rfl:kind=2:=by simpa using hc50
       refine CW.go uD 4 rfl (LW.cT (ivf_New W B m hm (ch++rows) u (mayOf dim vs) hvs (by omega) (may_in hd8)) cl163 .n2 ?_)
       rintro _ _ ⟨q,rf,bag,rfl,hf,rfl⟩;refine LW.splitA (LW.splitB (LW.splitC ?_))
       refine LW.go uD 2 rfl (LW.sr sz157 ?_)
       refine LW.go uD 11 rfl ?_
       refine NW.ret2 rfl rfl rfl ⟨_,⟨bb41,[cr bb41 161 [.int .i64 2,.int .i64 m,iN dim,np,ptr q,np,np]]++rf,bag,rfl,⟨_,_,_,_,rf,⟨q,rfl,rfl,rfl,rfl,hf⟩,rfl,hm,hd1,hd8⟩,rfl⟩,?_⟩
       simp only [List.append_assoc];exact .s4
     . have hk2:kind≠2:=by simpa using hc50
       refine CW.go uD 2 rfl (LW.eql ((kind==3)) rfl rfl (rfl) rfl ?_)
       refine LW.go uD 3 rfl ?_
       refine CW.cond rfl (fun hc58=>?_) (fun hc58=>?_)
       . obtain rfl:kind=3:=by simpa using hc58
         refine CW.go uD 3 rfl (LW.cT (gra_New W B m hm) cl164 ((Take.none _)) ?_)
         rintro _ rf ⟨q,rfl,hf⟩
         refine LW.go uD 2 rfl (LW.sr sz158 ?_)
         refine LW.go uD 11 rfl ?_
         refine NW.ret2 rfl rfl rfl ⟨_,⟨bb41,[cr bb41 161 [.int .i64 3,.int .i64 m,iN dim,np,np,ptr q,np]]++rf,[],rfl,⟨_,_,_,_,rf,⟨q,rfl,rfl,rfl,rfl,hf _⟩,rfl,hm,hd1,hd8⟩,rfl⟩,?_⟩
         simp only [List.append_assoc,List.nil_append];exact .s3
       . have hk3:kind≠3:=by simpa using hc58
         refine CW.go uD 2 rfl (LW.eql ((kind==4)) rfl rfl (rfl) rfl ?_)
         refine LW.go uD 3 rfl ?_
         refine CW.cond rfl (fun hc65=>?_) (fun hc65=>?_)
         . obtain rfl:kind=4:=by simpa using hc65
           refine CW.go uD 5 rfl (LW.cT (cod_New W B m hm dim hd1 hd8 (ch++rows) u (mayOf dim vs) hvs (by omega) may_all) cl165 .n2 ?_)
           rintro _ _ ⟨q,rf,bag,rfl,hf,rfl⟩;refine LW.splitA (LW.splitB (LW.splitC ?_))
           refine LW.go uD 2 rfl (LW.sr sz159 ?_)
           refine LW.go uD 11 rfl ?_
           refine NW.ret2 rfl rfl rfl ⟨_,⟨bb41,[cr bb41 161 [.int .i64 4,.int .i64 m,iN dim,np,np,np,ptr q]]++rf,bag,rfl,⟨_,_,_,_,rf,⟨q,rfl,rfl,rfl,rfl,hf,by simp [lows];rfl⟩,rfl,hm,hd1,hd8⟩,rfl⟩,?_⟩
           simp only [List.append_assoc];exact .s4
         . exact absurd (by simpa using hc65:kind≠4) (by omega) 
theorem idx_Blocks1 (n:Nat)(hn:n<=1000000):Spec prog W B 154 [.int .i64 1,iN n] [] (fun r post=>r=.int .i64 (blocksP 1 n:Int)/\post=[]):=by
 have hb:blocksP 1 n=(n+7)/8:=rfl
 rw [hb]
 refine Spec.eG [] func154 ntmps154 fun w0=>?_
 refine CW.go uD 8 rfl (LW.max2 (n:Int) rfl rfl (by split<;>omega) rfl ?_)
 refine LW.go uD 31 rfl (LW.eqlF ?_)
 refine LW.go uD 9 rfl (LW.eqlF ?_)
 refine LW.go uD 9 rfl (LW.eqlT ?_)
 refine LW.go uD 24 rfl (LW.quo (((n/8:Nat):Int)) rfl rfl (by decide) (by rw [Int.tdiv_eq_ediv_of_nonneg (by omega)];exact wr64 (by omega) (by omega) (by omega)) rfl ?_)
 refine LW.go uD 3 rfl ?_
 refine CW.cutG (fun k:Nat=>[(8,iN k),(7,.int .i64 1),(6,.int .i64 0)]) (fun _=>[]) (fun k=>k=(n+7)/8) ?cut15_1 ?cut15_2
 case cut15_1=>
  refine CW.go uD 4 rfl (LW.rem (((n % 8:Nat):Int)) rfl rfl (by decide) (by rw [Int.tmod_eq_emod_of_nonneg (by omega)];omega) rfl ?_)
  refine LW.gtr (decide (((n % 8:Nat):Int)>0)) rfl rfl (rfl) rfl ?_
  refine LW.go uD 2 rfl ?_
  refine CW.cond rfl (fun hc26=>?_) (fun hc26=>?_)
  . have hr:0<n % 8:=oT hc26
    refine CW.go uD 2 rfl (LW.ad (((n/8+1:Nat):Int)) ?_)
    exact LW.go uD 2 rfl (NW.mG (n/8+1) (by show n/8+1=(n+7)/8;omega))
  . have hr:n % 8=0:=oF hc26
    exact CW.go uD 1 rfl (NW.mG (n/8) (by show n/8=(n+7)/8;omega))
 case cut15_2=>
  rintro k rfl
  refine CW.go uD 5 rfl (LW.ad ((((n+7)/8+0:Nat):Int)) ?_)
  refine LW.mul ((((n+7)/8:Nat):Int)) rfl rfl w4 rfl ?_
  refine LW.go uD 4 rfl ?_
  refine NW.r1 ⟨_,⟨rfl,rfl⟩,?_⟩
  exact Sub.nil _
theorem idx_Blocks2 (n:Nat)(hn:n<=1000000):Spec prog W B 154 [.int .i64 2,iN n] [] (fun r post=>r=.int .i64 (blocksP 2 n:Int)/\post=[]):=by
 have hb:blocksP 2 n=(n+7)/8+1:=rfl
 rw [hb]
 refine Spec.eG [] func154 ntmps154 fun w0=>?_
 refine CW.go uD 8 rfl (LW.max2 (n:Int) rfl rfl (by split<;>omega) rfl ?_)
 refine LW.go uD 31 rfl (LW.eqlF ?_)
 refine LW.go uD 9 rfl (LW.eqlT ?_)
 refine LW.go uD 27 rfl (LW.quo (((n/8:Nat):Int)) rfl rfl (by decide) (by rw [Int.tdiv_eq_ediv_of_nonneg (by omega)];exact wr64 (by omega) (by omega) (by omega)) rfl ?_)
 refine LW.go uD 3 rfl ?_
 refine CW.cutG (fun k:Nat=>[(8,iN k),(7,.int .i64 1),(6,.int .i64 1)]) (fun _=>[]) (fun k=>k=(n+7)/8) ?cut15_1 ?cut15_2
 case cut15_1=>
  refine CW.go uD 4 rfl (LW.rem (((n % 8:Nat):Int)) rfl rfl (by decide) (by rw [Int.tmod_eq_emod_of_nonneg (by omega)];omega) rfl ?_)
  refine LW.gtr (decide (((n % 8:Nat):Int)>0)) rfl rfl (rfl) rfl ?_
  refine LW.go uD 2 rfl ?_
  refine CW.cond rfl (fun hc26=>?_) (fun hc26=>?_)
  . have hr:0<n % 8:=oT hc26
    refine CW.go uD 2 rfl (LW.ad (((n/8+1:Nat):Int)) ?_)
    exact LW.go uD 2 rfl (NW.mG (n/8+1) (by show n/8+1=(n+7)/8;omega))
  . have hr:n % 8=0:=oF hc26
    exact CW.go uD 1 rfl (NW.mG (n/8) (by show n/8=(n+7)/8;omega))
 case cut15_2=>
  rintro k rfl
  refine CW.go uD 5 rfl (LW.ad ((((n+7)/8+1:Nat):Int)) ?_)
  refine LW.mul ((((n+7)/8+1:Nat):Int)) rfl rfl w4 rfl ?_
  refine LW.go uD 4 rfl ?_
  refine NW.r1 ⟨_,⟨rfl,rfl⟩,?_⟩
  exact Sub.nil _
theorem idx_Blocks3 (n:Nat)(hn:n<=1000000):Spec prog W B 154 [.int .i64 3,iN n] [] (fun r post=>r=.int .i64 (blocksP 3 n:Int)/\post=[]):=by
 have hb:blocksP 3 n=2*((n+7)/8+1):=rfl
 rw [hb]
 refine Spec.eG [] func154 ntmps154 fun w0=>?_
 refine CW.go uD 8 rfl (LW.max2 (n:Int) rfl rfl (by split<;>omega) rfl ?_)
 refine LW.go uD 31 rfl (LW.eqlT ?_)
 refine LW.go uD 30 rfl (LW.quo (((n/8:Nat):Int)) rfl rfl (by decide) (by rw [Int.tdiv_eq_ediv_of_nonneg (by omega)];exact wr64 (by omega) (by omega) (by omega)) rfl ?_)
 refine LW.go uD 3 rfl ?_
 refine CW.cutG (fun k:Nat=>[(8,iN k),(7,.int .i64 2),(6,.int .i64 1)]) (fun _=>[]) (fun k=>k=(n+7)/8) ?cut15_1 ?cut15_2
 case cut15_1=>
  refine CW.go uD 4 rfl (LW.rem (((n % 8:Nat):Int)) rfl rfl (by decide) (by rw [Int.tmod_eq_emod_of_nonneg (by omega)];omega) rfl ?_)
  refine LW.gtr (decide (((n % 8:Nat):Int)>0)) rfl rfl (rfl) rfl ?_
  refine LW.go uD 2 rfl ?_
  refine CW.cond rfl (fun hc26=>?_) (fun hc26=>?_)
  . have hr:0<n % 8:=oT hc26
    refine CW.go uD 2 rfl (LW.ad (((n/8+1:Nat):Int)) ?_)
    exact LW.go uD 2 rfl (NW.mG (n/8+1) (by show n/8+1=(n+7)/8;omega))
  . have hr:n % 8=0:=oF hc26
    exact CW.go uD 1 rfl (NW.mG (n/8) (by show n/8=(n+7)/8;omega))
 case cut15_2=>
  rintro k rfl
  refine CW.go uD 5 rfl (LW.ad ((((n+7)/8+1:Nat):Int)) ?_)
  refine LW.mul (((2*((n+7)/8+1):Nat):Int)) rfl rfl w4 rfl ?_
  refine LW.go uD 4 rfl ?_
  refine NW.r1 ⟨_,⟨rfl,rfl⟩,?_⟩
  exact Sub.nil _
theorem idx_Blocks4 (n:Nat)(hn:n<=1000000):Spec prog W B 154 [.int .i64 4,iN n] [] (fun r post=>r=.int .i64 (blocksP 4 n:Int)/\post=[]):=by
 have hb:blocksP 4 n=(n+15)/16+1:=rfl
 rw [hb]
 refine Spec.eG [] func154 ntmps154 fun w0=>?_
 refine CW.go uD 8 rfl (LW.max2 (n:Int) rfl rfl (by split<;>omega) rfl ?_)
 refine LW.go uD 31 rfl (LW.eqlF ?_)
 refine LW.go uD 9 rfl (LW.eqlF ?_)
 refine LW.go uD 9 rfl (LW.eqlF ?_)
 refine LW.go uD 8 rfl (LW.eqlT ?_)
 refine LW.go uD 29 rfl (LW.quo (((n/16:Nat):Int)) rfl rfl (by decide) (by rw [Int.tdiv_eq_ediv_of_nonneg (by omega)];exact wr64 (by omega) (by omega) (by omega)) rfl ?_)
 refine LW.go uD 3 rfl ?_
 refine CW.cutG (fun k:Nat=>[(8,iN k),(7,.int .i64 1),(6,.int .i64 1)]) (fun _=>[]) (fun k=>k=(n+15)/16) ?cut15_1 ?cut15_2
 case cut15_1=>
  refine CW.go uD 4 rfl (LW.rem (((n % 16:Nat):Int)) rfl rfl (by decide) (by rw [Int.tmod_eq_emod_of_nonneg (by omega)];omega) rfl ?_)
  refine LW.gtr (decide (((n % 16:Nat):Int)>0)) rfl rfl (rfl) rfl ?_
  refine LW.go uD 2 rfl ?_
  refine CW.cond rfl (fun hc26=>?_) (fun hc26=>?_)
  . have hr:0<n % 16:=oT hc26
    refine CW.go uD 2 rfl (LW.ad (((n/16+1:Nat):Int)) ?_)
    exact LW.go uD 2 rfl (NW.mG (n/16+1) (by show n/16+1=(n+15)/16;omega))
  . have hr:n % 16=0:=oF hc26
    exact CW.go uD 1 rfl (NW.mG (n/16) (by show n/16=(n+15)/16;omega))
 case cut15_2=>
  rintro k rfl
  refine CW.go uD 5 rfl (LW.ad ((((n+15)/16+1:Nat):Int)) ?_)
  refine LW.mul ((((n+15)/16+1:Nat):Int)) rfl rfl w4 rfl ?_
  refine LW.go uD 4 rfl ?_
  refine NW.r1 ⟨_,⟨rfl,rfl⟩,?_⟩
  exact Sub.nil _
theorem idx_Blocks (kind:Int)(n:Nat)(h1:1<=kind)(h4:kind<=4)(hn:n<=1000000):Spec prog W B 154 [.int .i64 kind,iN n] [] (fun r post=>r=.int .i64 (blocksP kind n:Int)/\post=[]):=by
 have:kind=1\/kind=2\/kind=3\/kind=4:=by omega
 rcases this with rfl | rfl | rfl | rfl
 . exact idx_Blocks1 W B n hn
 . exact idx_Blocks2 W B n hn
 . exact idx_Blocks3 W B n hn
 . exact idx_Blocks4 W B n hn
set_option maxHeartbeats 1000000 in
theorem idx_Put (ht:Tab W B)(p:Nat)(x:IdxP)(rows im:List Row)(id:Int)(v:Value)(xs:List Int)(draw:Nat)(hx:IdxR W B im p x rows)(hv:VecAt W B im v xs)(hm:mayV xs (x.dim:Int)=true)(hid:IdOk id)(hdr:draw<4294967296)(hg:∀ g,x.x=.graph g->aget g id=none) :
  Spec prog W B 49 [ptr p,.int .i64 id,v,.int .u32 (draw:Int)] (rows++im) (fun r post=>r=.nilIface/\∃ rows' ch,IdxR W B (ch++im) p (idxPut x id xs draw) rows'/\post=rows'++(ch++im)):=by
 obtain⟨xm,xd,xx⟩:=x
 obtain⟨a,b,c,d,sub,hix,rfl,hmet,h1,h8⟩:=hx
 simp only at hix hmet h1 h8 hm hg
 have hmv:=mayV_of hm
 have hxo:VOk xs:=⟨by omega,hmv.2⟩
 have hid':=hid
 unfold IdOk at hid'
 cases xx with
 | flat l=>
  obtain⟨q,rfl,rfl,rfl,rfl,hf⟩:=hix
  refine Spec.eG [[cr p 161 [.int .i64 (IxP.flat l).kind,.int .i64 xm,iN xd,(ptr q),np,np,np]],sub,im] func49 ntmps49 fun w0=>?_
  refine CW.go uD 10 rfl (LW.pn underlying91 ?_)
  refine LW.go uD 7 rfl (LW.lssF ?_)
  refine LW.go uD 4 rfl (LW.gtrF ?_)
  refine LW.go uD 11 rfl (LW.ld one3 ?_)
  refine LW.eG (vect_May W B im v xs (xd:Int) hv (by omega)) cl74 ?_
  rw [hm]
  refine LW.go uD 14 rfl (LW.ld one3 ?_)
  refine LW.go uD 5 rfl (LW.eql true rfl rfl (rfl) rfl ?_)
  refine LW.go uD 8 rfl (LW.ld one156 ?_)
  refine LW.go uD 2 rfl (LW.cT (flat_Put W B q xm l sub im id v xs hf hv hxo hid) cl96 .n2 ?_)
  rintro _ _ ⟨rfl,rows',ch,hf',rfl⟩;refine LW.splitA ?_
  refine LW.go uD 9 rfl ?_
  refine NW.r1 ⟨_,⟨rfl,[cr p 161 [.int .i64 (IxP.flat l).kind,.int .i64 xm,iN xd,(ptr q),np,np,np]]++rows',ch,⟨_,_,_,_,rows',⟨q,rfl,rfl,rfl,rfl,hf'⟩,rfl,hmet,h1,h8⟩,rfl⟩,?_⟩
  simp only [List.append_assoc];exact .s3
 | ivf ms l=>
  obtain⟨q,rfl,rfl,rfl,rfl,hf⟩:=hix
  refine Spec.eG [[cr p 161 [.int .i64 (IxP.ivf ms l).kind,.int .i64 xm,iN xd,np,(ptr q),np,np]],sub,im] func49 ntmps49 fun w0=>?_
  refine CW.go uD 10 rfl (LW.pn underlying91 ?_)
  refine LW.go uD 7 rfl (LW.lssF ?_)
  refine LW.go uD 4 rfl (LW.gtrF ?_)
  refine LW.go uD 11 rfl (LW.ld one3 ?_)
  refine LW.eG (vect_May W B im v xs (xd:Int) hv (by omega)) cl74 ?_
  rw [hm]
  refine LW.go uD 14 rfl (LW.ld one3 ?_)
  refine LW.go uD 5 rfl (LW.eql false rfl rfl (rfl) rfl ?_)
  refine LW.go uD 6 rfl (LW.eql true rfl rfl (rfl) rfl ?_)
  refine LW.go uD 8 rfl (LW.ld one157 ?_)
  refine LW.go uD 2 rfl (LW.cT (ivf_Put W B q xm ms l sub im id v xs hf hv hxo hid) cl97 .n2 ?_)
  rintro _ _ ⟨rfl,rows',ch,hf',rfl⟩;refine LW.splitA ?_
  refine LW.go uD 9 rfl ?_
  refine NW.r1 ⟨_,⟨rfl,[cr p 161 [.int .i64 (IxP.ivf ms l).kind,.int .i64 xm,iN xd,np,(ptr q),np,np]]++rows',ch,⟨_,_,_,_,rows',⟨q,rfl,rfl,rfl,rfl,hf'⟩,rfl,hmet,h1,h8⟩,rfl⟩,?_⟩
  simp only [List.append_assoc];exact .s3
 | graph g=>
  obtain⟨q,rfl,rfl,rfl,rfl,hf⟩:=hix
  refine Spec.eG [[cr p 161 [.int .i64 (IxP.graph g).kind,.int .i64 xm,iN xd,np,np,(ptr q),np]],sub,im] func49 ntmps49 fun w0=>?_
  refine CW.go uD 10 rfl (LW.pn underlying91 ?_)
  refine LW.go uD 7 rfl (LW.lssF ?_)
  refine LW.go uD 4 rfl (LW.gtrF ?_)
  refine LW.go uD 11 rfl (LW.ld one3 ?_)
  refine LW.eG (vect_May W B im v xs (xd:Int) hv (by omega)) cl74 ?_
  rw [hm]
  refine LW.go uD 14 rfl (LW.ld one3 ?_)
  refine LW.go uD 5 rfl (LW.eql false rfl rfl (rfl) rfl ?_)
  refine LW.go uD 6 rfl (LW.eql false rfl rfl (rfl) rfl ?_)
  refine LW.go uD 6 rfl (LW.eql true rfl rfl (rfl) rfl ?_)
  refine LW.go uD 8 rfl (LW.ld one158 ?_)
  refine LW.go uD 3 rfl (LW.cT (gra_Put W B ht q xm g sub im id v xs draw hf hv hxo hid hdr (hg g rfl)) cl98 .n2 ?_)
  rintro _ _ ⟨rfl,rows',ch,hf',rfl⟩;refine LW.splitA ?_
  refine LW.go uD 9 rfl ?_
  refine NW.r1 ⟨_,⟨rfl,[cr p 161 [.int .i64 (IxP.graph g).kind,.int .i64 xm,iN xd,np,np,(ptr q),np]]++rows',ch,⟨_,_,_,_,rows',⟨q,rfl,rfl,rfl,rfl,hf'⟩,rfl,hmet,h1,h8⟩,rfl⟩,?_⟩
  simp only [List.append_assoc];exact .s3
 | coded los sts l=>
  obtain⟨q,rfl,rfl,rfl,rfl,hf,hcl⟩:=hix
  refine Spec.eG [[cr p 161 [.int .i64 (IxP.coded los sts l).kind,.int .i64 xm,iN xd,np,np,np,(ptr q)]],sub,im] func49 ntmps49 fun w0=>?_
  refine CW.go uD 10 rfl (LW.pn underlying91 ?_)
  refine LW.go uD 7 rfl (LW.lssF ?_)
  refine LW.go uD 4 rfl (LW.gtrF ?_)
  refine LW.go uD 11 rfl (LW.ld one3 ?_)
  refine LW.eG (vect_May W B im v xs (xd:Int) hv (by omega)) cl74 ?_
  rw [hm]
  refine LW.go uD 14 rfl (LW.ld one3 ?_)
  refine LW.go uD 5 rfl (LW.eql false rfl rfl (rfl) rfl ?_)
  refine LW.go uD 6 rfl (LW.eql false rfl rfl (rfl) rfl ?_)
  refine LW.go uD 6 rfl (LW.eql false rfl rfl (rfl) rfl ?_)
  refine LW.go uD 6 rfl (LW.eql true rfl rfl (rfl) rfl ?_)
  refine LW.go uD 8 rfl (LW.ld one159 ?_)
  refine LW.go uD 2 rfl (LW.cT (cod_Put W B q xm los sts l sub im id v xs hf hv hxo (by rw [hmv.1,hcl]) hid) cl99 .n2 ?_)
  rintro _ _ ⟨rfl,rows',ch,hf',rfl⟩;refine LW.splitA ?_
  refine LW.go uD 9 rfl ?_
  refine NW.r1 ⟨_,⟨rfl,[cr p 161 [.int .i64 (IxP.coded los sts l).kind,.int .i64 xm,iN xd,np,np,np,(ptr q)]]++rows',ch,⟨_,_,_,_,rows',⟨q,rfl,rfl,rfl,rfl,hf',hcl⟩,rfl,hmet,h1,h8⟩,rfl⟩,?_⟩
  simp only [List.append_assoc];exact .s3
theorem idx_Search (p:Nat)(x:IdxP)(rows im:List Row)(qv:Value)(q0:List Int)(k:Nat)(hx:IdxR W B im p x rows)(hv:VecAt W B im qv q0)(hm:mayV q0 (x.dim:Int)=true)(hk:k<=20) :
  Spec prog W B 36 [ptr p,qv,iN k] (rows++im) (fun r post=>∃ u ch,r=.tuple #[u,.nilIface]/\OwnS 72 2 u (idxS x q0 k).length (hitsC (idxS x q0 k)) ch/\post=ch++(rows++im)):=by
 obtain⟨xm,xd,xx⟩:=x
 obtain⟨a,b,c,d,sub,hix,rfl,hmet,h1,h8⟩:=hx
 simp only at hix hmet h1 h8 hm
 have hmv:=mayV_of hm
 have hxo:VOk q0:=⟨by omega,hmv.2⟩
 cases xx with
 | flat l=>
  obtain⟨q,rfl,rfl,rfl,rfl,hf⟩:=hix
  refine Spec.eG [[cr p 161 [.int .i64 (IxP.flat l).kind,.int .i64 xm,iN xd,(ptr q),np,np,np]],sub,im] func36 ntmps36 fun w0=>?_
  refine CW.go uD 11 rfl (LW.pn underlying91 ?_)
  refine LW.go uD 7 rfl (LW.lssF ?_)
  refine LW.go uD 4 rfl (LW.gtrF ?_)
  refine LW.go uD 11 rfl (LW.ld one3 ?_)
  refine LW.eG (vect_May W B im qv q0 (xd:Int) hv (by omega)) cl74 ?_
  rw [hm]
  refine LW.go uD 14 rfl (LW.ld one3 ?_)
  refine LW.go uD 5 rfl (LW.eql true rfl rfl (rfl) rfl ?_)
  refine LW.go uD 9 rfl (LW.ld one156 ?_)
  refine LW.go uD 2 rfl (LW.cT (flat_Search W B q xm l sub im qv q0 k hf hv hxo (by omega)) cl75 .n2 ?_)
  rintro u _ ⟨ch,ho,rfl⟩;refine LW.splitA (LW.splitB ?_)
  refine LW.go uD 7 rfl ?_
  refine NW.ret2 rfl rfl rfl ⟨_,⟨u,ch,rfl,ho,rfl⟩,?_⟩
  simp only [List.append_assoc];exact .s4
 | ivf ms l=>
  obtain⟨q,rfl,rfl,rfl,rfl,hf⟩:=hix
  refine Spec.eG [[cr p 161 [.int .i64 (IxP.ivf ms l).kind,.int .i64 xm,iN xd,np,(ptr q),np,np]],sub,im] func36 ntmps36 fun w0=>?_
  refine CW.go uD 11 rfl (LW.pn underlying91 ?_)
  refine LW.go uD 7 rfl (LW.lssF ?_)
  refine LW.go uD 4 rfl (LW.gtrF ?_)
  refine LW.go uD 11 rfl (LW.ld one3 ?_)
  refine LW.eG (vect_May W B im qv q0 (xd:Int) hv (by omega)) cl74 ?_
  rw [hm]
  refine LW.go uD 14 rfl (LW.ld one3 ?_)
  refine LW.go uD 5 rfl (LW.eql false rfl rfl (rfl) rfl ?_)
  refine LW.go uD 6 rfl (LW.eql true rfl rfl (rfl) rfl ?_)
  refine LW.go uD 9 rfl (LW.ld one157 ?_)
  refine LW.go uD 2 rfl (LW.cT (ivf_Search W B q xm ms l sub im qv q0 k hf hv hxo (by omega)) cl76 .n2 ?_)
  rintro u _ ⟨ch,ho,rfl⟩;refine LW.splitA (LW.splitB ?_)
  refine LW.go uD 7 rfl ?_
  refine NW.ret2 rfl rfl rfl ⟨_,⟨u,ch,rfl,ho,rfl⟩,?_⟩
  simp only [List.append_assoc];exact .s4
 | graph g=>
  obtain⟨q,rfl,rfl,rfl,rfl,hf⟩:=hix
  refine Spec.eG [[cr p 161 [.int .i64 (IxP.graph g).kind,.int .i64 xm,iN xd,np,np,(ptr q),np]],sub,im] func36 ntmps36 fun w0=>?_
  refine CW.go uD 11 rfl (LW.pn underlying91 ?_)
  refine LW.go uD 7 rfl (LW.lssF ?_)
  refine LW.go uD 4 rfl (LW.gtrF ?_)
  refine LW.go uD 11 rfl (LW.ld one3 ?_)
  refine LW.eG (vect_May W B im qv q0 (xd:Int) hv (by omega)) cl74 ?_
  rw [hm]
  refine LW.go uD 14 rfl (LW.ld one3 ?_)
  refine LW.go uD 5 rfl (LW.eql false rfl rfl (rfl) rfl ?_)
  refine LW.go uD 6 rfl (LW.eql false rfl rfl (rfl) rfl ?_)
  refine LW.go uD 6 rfl (LW.eql true rfl rfl (rfl) rfl ?_)
  refine LW.go uD 9 rfl (LW.ld one158 ?_)
  refine LW.go uD 2 rfl (LW.cT (gra_Search W B q xm g sub im qv q0 k hf hv hxo (by omega)) cl77 .n2 ?_)
  rintro u _ ⟨ch,ho,rfl⟩;refine LW.splitA (LW.splitB ?_)
  refine LW.go uD 7 rfl ?_
  refine NW.ret2 rfl rfl rfl ⟨_,⟨u,ch,rfl,ho,rfl⟩,?_⟩
  simp only [List.append_assoc];exact .s4
 | coded los sts l=>
  obtain⟨q,rfl,rfl,rfl,rfl,hf,hcl⟩:=hix
  refine Spec.eG [[cr p 161 [.int .i64 (IxP.coded los sts l).kind,.int .i64 xm,iN xd,np,np,np,(ptr q)]],sub,im] func36 ntmps36 fun w0=>?_
  refine CW.go uD 11 rfl (LW.pn underlying91 ?_)
  refine LW.go uD 7 rfl (LW.lssF ?_)
  refine LW.go uD 4 rfl (LW.gtrF ?_)
  refine LW.go uD 11 rfl (LW.ld one3 ?_)
  refine LW.eG (vect_May W B im qv q0 (xd:Int) hv (by omega)) cl74 ?_
  rw [hm]
  refine LW.go uD 14 rfl (LW.ld one3 ?_)
  refine LW.go uD 5 rfl (LW.eql false rfl rfl (rfl) rfl ?_)
  refine LW.go uD 6 rfl (LW.eql false rfl rfl (rfl) rfl ?_)
  refine LW.go uD 6 rfl (LW.eql false rfl rfl (rfl) rfl ?_)
  refine LW.go uD 12 rfl (LW.ld one159 ?_)
  refine LW.go uD 2 rfl (LW.cT (cod_Search W B q xm los sts l sub im qv q0 k hf hv hxo (by omega)) cl78 .n2 ?_)
  rintro u _ ⟨ch,ho,rfl⟩;refine LW.splitA (LW.splitB ?_)
  refine LW.go uD 5 rfl ?_
  refine NW.ret2 rfl rfl rfl ⟨_,⟨u,ch,rfl,ho,rfl⟩,?_⟩
  simp only [List.append_assoc];exact .s4
theorem idx_Ids (p:Nat)(x:IdxP)(rows im:List Row)(hx:IdxR W B im p x rows) :
  Spec prog W B 203 [ptr p] rows (fun r post=>∃ ch,OwnS 3 1 r (idxIds x).length ((idxIds x).map i64k) ch/\post=ch++rows):=by
 have hx':=hx
 obtain⟨xm,xd,xx⟩:=x
 obtain⟨a,b,c,d,sub,hix,hrows,hmet,h1,h8⟩:=hx
 simp only at hix hmet h1 h8 hrows
 cases xx with
 | flat l=>
  obtain⟨q,rfl,rfl,rfl,rfl,hf⟩:=hix
  refine Spec.eG [rows] func203 ntmps203 fun w0=>?_
  refine CW.go uD 9 rfl (LW.cG (idx_Kind W B p _ rows im hx') cl103 ?_)
  rintro _ _ ⟨rfl,hpost⟩;rw [hpost,hrows];clear hpost;refine LW.splitA ?_
  refine LW.go uD 5 rfl (LW.eql true rfl rfl (rfl) rfl ?_)
  refine LW.go uD 9 rfl (LW.ld one156 ?_)
  refine LW.cG (flat_Ids W B q xm l sub im hf) cl139 ?_
  rintro u _ ⟨ch,ho,rfl⟩;refine LW.splitA ?_
  refine LW.go uD 6 rfl ?_
  refine NW.ret1 rfl rfl ⟨_,⟨ch,by show OwnS 3 1 u (sI (l.map (·.1))).length _ ch;rw [sI_len];exact ho,rfl⟩,?_⟩
  exact .s3
 | ivf ms l=>
  obtain⟨q,rfl,rfl,rfl,rfl,hf⟩:=hix
  refine Spec.eG [rows] func203 ntmps203 fun w0=>?_
  refine CW.go uD 9 rfl (LW.cG (idx_Kind W B p _ rows im hx') cl103 ?_)
  rintro _ _ ⟨rfl,hpost⟩;rw [hpost,hrows];clear hpost;refine LW.splitA ?_
  refine LW.go uD 5 rfl (LW.eql false rfl rfl (rfl) rfl ?_)
  refine LW.go uD 6 rfl (LW.eql true rfl rfl (rfl) rfl ?_)
  refine LW.go uD 9 rfl (LW.ld one157 ?_)
  refine LW.cG (ivf_Ids W B q xm ms l sub im hf) cl143 ?_
  rintro u _ ⟨ch,ho,rfl⟩;refine LW.splitA ?_
  refine LW.go uD 6 rfl ?_
  refine NW.ret1 rfl rfl ⟨_,⟨ch,by show OwnS 3 1 u (sI (l.map (·.1))).length _ ch;rw [sI_len];exact ho,rfl⟩,?_⟩
  exact .s3
 | graph g=>
  obtain⟨q,rfl,rfl,rfl,rfl,hf⟩:=hix
  refine Spec.eG [rows] func203 ntmps203 fun w0=>?_
  refine CW.go uD 9 rfl (LW.cG (idx_Kind W B p _ rows im hx') cl103 ?_)
  rintro _ _ ⟨rfl,hpost⟩;rw [hpost,hrows];clear hpost;refine LW.splitA ?_
  refine LW.go uD 5 rfl (LW.eql false rfl rfl (rfl) rfl ?_)
  refine LW.go uD 6 rfl (LW.eql false rfl rfl (rfl) rfl ?_)
  refine LW.go uD 6 rfl (LW.eql true rfl rfl (rfl) rfl ?_)
  refine LW.go uD 9 rfl (LW.ld one158 ?_)
  refine LW.cG (gra_Ids W B q xm g sub im hf) cl220 ?_
  rintro u _ ⟨ch,ho,rfl⟩;refine LW.splitA ?_
  refine LW.go uD 6 rfl ?_
  refine NW.ret1 rfl rfl ⟨_,⟨ch,by show OwnS 3 1 u (sI (g.map (·.1))).length _ ch;rw [sI_len];exact ho,rfl⟩,?_⟩
  exact .s3
 | coded los sts l=>
  obtain⟨q,rfl,rfl,rfl,rfl,hf,hcl⟩:=hix
  refine Spec.eG [rows] func203 ntmps203 fun w0=>?_
  refine CW.go uD 9 rfl (LW.cG (idx_Kind W B p _ rows im hx') cl103 ?_)
  rintro _ _ ⟨rfl,hpost⟩;rw [hpost,hrows];clear hpost;refine LW.splitA ?_
  refine LW.go uD 5 rfl (LW.eql false rfl rfl (rfl) rfl ?_)
  refine LW.go uD 6 rfl (LW.eql false rfl rfl (rfl) rfl ?_)
  refine LW.go uD 6 rfl (LW.eql false rfl rfl (rfl) rfl ?_)
  refine LW.go uD 6 rfl (LW.eql true rfl rfl (rfl) rfl ?_)
  refine LW.go uD 9 rfl (LW.ld one159 ?_)
  refine LW.cG (cod_Ids W B q xm los sts l sub im hf) cl148 ?_
  rintro u _ ⟨ch,ho,rfl⟩;refine LW.splitA ?_
  refine LW.go uD 6 rfl ?_
  refine NW.ret1 rfl rfl ⟨_,⟨ch,by show OwnS 3 1 u (sI (l.map (·.1))).length _ ch;rw [sI_len];exact ho,rfl⟩,?_⟩
  exact .s3
end
open Go.RowKit
theorem find_step {α:Type}(f:α->Bool){l:List α}{i:Nat}{x:α}(h:l[i]?=some x)(hn:(l.take i).find? f=none) :
   (f x=true->l.find? f=some x)/\(f x=false->(l.take (i+1)).find? f=none):=by
 constructor
 . intro hx
   have e:l=l.take i++(x::l.drop (i+1)):=by
    obtain⟨hi,rfl⟩:=List.getElem?_eq_some_iff.1 h
    rw [List.getElem_cons_drop,List.take_append_drop]
   rw [e,List.find?_append,hn]
   simp [hx]
 . intro hx
   rw [List.take_add_one,h,List.find?_append,hn]
   simp [hx]
section
variable {P:Program}{n:Nat}{S:World->Prop}{e:Env}{d ty:Nat}{pos:String}{af:Array Edge}
theorem Yl.extract {x:Operand}{vs:Array Value}{i:Nat}{v:Value}(hx:e.ev x=some (.tuple vs))(hv:vs[i]?=some v):Yl P n S e ⟨some d,.extract x i,ty,pos,af,none⟩ v:=fun a w hf _=>by simp [execOp,hf.eval hx,Instr.extract,hv]
theorem Yl.ptrNil {xt yt el:Nat}{x:Operand}{p:Option Addr}(r:Bool)(hx:e.ev x=some (.pointer p))(ht:P.underlying xt=some (.pointer el))(hr:p.isNone=r):Yl P n S e ⟨some d,.binOp .eql xt x (.const (.pointer none)) yt,ty,pos,af,none⟩ (.bool r):=fun a w hf _=>by
 subst hr
 have he:a.eval (.const (.pointer none))=.pointer none:=rfl
 have hq:∀ m,(Op.equalIn (m+1) xt (.pointer p) (.pointer none)).run P w=.ok p.isNone w:=fun m=>by
  cases p<;>simp [Op.equalIn,run_underlying ht]
 cases p<;>simp [execOp,hf.eval hx,he,eqGuard_at_pointer,binOp,Op.equal,Op.maxDepth,hq 9999,Result.andThen]
theorem Yl.ptrNotNil {xt yt el:Nat}{x:Operand}{p:Option Addr}(r:Bool)(hx:e.ev x=some (.pointer p))(ht:P.underlying xt=some (.pointer el))(hr:p.isSome=r):Yl P n S e ⟨some d,.binOp .neq xt x (.const (.pointer none)) yt,ty,pos,af,none⟩ (.bool r):=fun a w hf _=>by
 subst hr
 have he:a.eval (.const (.pointer none))=.pointer none:=rfl
 have hq:∀ m,(Op.equalIn (m+1) xt (.pointer p) (.pointer none)).run P w=.ok p.isNone w:=fun m=>by
  cases p<;>simp [Op.equalIn,run_underlying ht]
 cases p<;>simp [execOp,hf.eval hx,he,eqGuard_at_pointer,binOp,Op.equal,Op.maxDepth,hq 9999,Result.andThen]
end
theorem Sub.flatL {k:Heap}{q:List Row}(f:∀ p,p=k.flatten->Sub p q):Sub k.flatten q:=f _ rfl
section
variable {P:Program}{n:Nat}{c:Ctx}{Q:Exit->Act->World->Prop}{e:Env}{h h':Heap}
theorem CW.splitC {x:Code}{y z a b:List Row}(k:CW P n c x Q e (y::z::a::b::h)):CW P n c x Q e (y::z::(a++b)::h):=k.heap (Sub.of_perm (by simp))
theorem NW.addNil {x:Exit}{a:List Row}(ha:a=[])(k:NW n c x Q e (a::h)):NW n c x Q e h:=k.heap' (Sub.of_perm (by subst ha;simp))
end
section
variable (W:World)(B:Nat)
theorem store_Next (p:Nat)(s:StoP)(rows im:List Row)(after:Int)(hs:StoR W B im p s rows) :
   Spec prog W B 177 [ptr p,.int .i64 after] (rows++im) (fun r post=>∃ u bag,r=.tuple #[.agg (itemC u ((stoNext s after).getD ItemP.none)).toArray,.bool (stoNext s after).isSome]/\VecAt W B bag u ((stoNext s after).getD ItemP.none).vec/\post=bag++(rows++im)):=by
 have hsl:=hs.ok.2.2
 have hil:=stoItems_len s
 refine Spec.eG [rows++im] func177 ntmps177 fun w0=>?_
 refine CW.go uD 2 rfl (LW.alloc zero36 rfl ?_)
 intro ba4
 refine LW.go uD 7 rfl (LW.cG (store_Items W B p s rows im hs) cl79 ?_)
 rintro r _ ⟨its,ch,bag,ho,hit,hiv,rfl⟩;obtain⟨A,cp,rfl,hA,hcp⟩:=ho.val;refine LW.splitA (LW.splitB ?_)
 have hs1:=ho.src (W:=W) (B:=B)
 have hll:its.length=s.length:=by have h9:=congrArg List.length hit;rw [List.length_map,hil] at h9;exact h9
 refine LW.go uD 5 rfl ?_
 refine CW.loopG (fun i:Nat=>[(11,iN i),(10,iN its.length),(9,.slice A its.length cp),(4,ptr ba4),(1,.int .i64 after)]) (fun _=>[[cr ba4 36 [.int .i64 0,.slice none 0 0,.string ⟨#[]⟩,.int .i64 0,.bool false]],ch,bag,rows++im]) (fun i=>i<=its.length/\((stoItems s).take i).find? (fun i=>decide (i.id>after) && !i.gone)=none) (fun i=>its.length-i) 0 (by exact⟨Nat.zero_le _,rfl⟩) rfl (by repeat' constructor) ?_
 rintro i ⟨hi,hn⟩
 refine CW.go uD 2 rfl (LW.lss (decide ((i:Int)<(its.length:Int))) rfl rfl (rfl) rfl ?_)
 refine LW.go uD 3 rfl ?_
 refine CW.cond rfl (fun hc12=>?_) (fun hc12=>?_)
 . have hin:i<its.length:=oT hc12
   obtain⟨y,hyi,_⟩:=drop_at hin
   obtain⟨a,rfl⟩:∃ x,A=some x:=smA hA
   have hyx:(stoItems s)[i]?=some y.2:=by rw [<- hit,List.getElem?_map,hyi];rfl
   have hst:=find_step _ hyx hn
   have hyv:=hiv y (List.mem_of_getElem? hyi)
   refine CW.go uD 6 rfl (LW.indexAt rfl rfl underlying163 ixs163 (by omega) (by omega) rfl ?_)
   refine LW.loadAggRd (itemC y.1 y.2) rfl (hs1.rd .t) (by show (0:Nat)<5;decide) (by rw [Int.toNat_natCast];exact itsC_at hyi) underlying36 rfl szt36 rfl ?_
   refine LW.alloc zero36 rfl ?_
   intro ba7
   refine LW.sA (itemC y.1 y.2) szt36 (itemC_one hyv.one y.2) ?_
   refine LW.go uD 5 rfl (LW.load (v:=.int .i64 y.2.id) rfl .t (rfl) one3 rfl ?_)
   refine LW.go uD 1 rfl ?_
   by_cases hgt:y.2.id>after
   . refine LW.gtr true rfl rfl (decide_eq_true hgt) rfl ?_
     refine LW.go uD 4 rfl (LW.load (v:=.bool y.2.gone) rfl .t (rfl) one4 rfl ?_)
     refine LW.go uD 5 rfl ?_
     refine CW.cond rfl (fun hc23=>?_) (fun hc23=>?_)
     . have hg:y.2.gone=false:=by simpa using hc23
       have hfx:=hst.1 (by simp [hgt,hg])
       refine CW.go uD 2 rfl (LW.lA (itemC y.1 y.2) underlying36 szt36 ?_)
       refine LW.sA (itemC y.1 y.2) szt36 (itemC_one hyv.one y.2) ?_
       refine LW.go uD 6 rfl (NW.then_ret ?_)
       refine NW.go uD 2 rfl ?_
       refine NW.res2 rfl (.cell (itemC y.1 y.2) rfl .t zd underlying36 rfl szt36) (.tmp rfl) ⟨_,⟨y.1,bag,by rw [show stoNext s after=some y.2 from hfx];rfl,by rw [show stoNext s after=some y.2 from hfx];exact hyv,rfl⟩,?_⟩
       exact .s2
     . have hg:y.2.gone=true:=by simpa using hc23
       refine CW.go uD 4 rfl (LW.ad ((i+1:Int)) ?_)
       exact LW.go uD 2 rfl (NW.mG (i+1) (by exact⟨⟨by omega,hst.2 (by simp [hg])⟩,by omega⟩))
   . refine LW.gtr false rfl rfl (decide_eq_false hgt) rfl ?_
     refine LW.go uD 12 rfl (LW.ad ((i+1:Int)) ?_)
     exact LW.go uD 2 rfl (NW.mG (i+1) (by exact⟨⟨by omega,hst.2 (by simp [hgt])⟩,by omega⟩))
 . have hin:i=its.length:=oF hc12
   have hfin:stoNext s after=none:=by unfold stoNext;rw [List.take_of_length_le (by omega)] at hn;exact hn
   refine CW.go uD 2 rfl (NW.then_exit (NW.go uD 4 rfl (LW.build (vs:=[]) (#[.int .i64 0,.slice none 0 0,.string ⟨#[]⟩,.int .i64 0,.bool false]) trivial (by kernel_rfl) rfl ?_)))
   refine LW.sA (itemC (.slice none 0 0) ItemP.none) szt36 (itemC_one rfl ItemP.none) ?_
   refine LW.go uD 4 rfl ?_
   refine NW.res2 rfl (.cell (itemC (.slice none 0 0) ItemP.none) rfl .t zd underlying36 rfl szt36) (.tmp rfl) ⟨_,⟨_,[],by rw [hfin];rfl,by rw [hfin];exact VecAt.none,rfl⟩,?_⟩
   exact (Sub.one .t)
end
end Go.Proofs.YtnlpccoigflheaaGreatDoor
