/- TQuant2 TSortF TMapR TPure TPure2 TPure3 -/
import Derived.Test.YtnlpccoigflheaaGreatDoorTQuant
import Derived.Test.YtnlpccoigflheaaGreatDoorAgg
import Derived.Test.YtnlpccoigflheaaGreatDoorFac
namespace Go.Proofs.YtnlpccoigflheaaGreatDoor
open Go.RowKit
open Go.Proofs.Tryz
def Tus:Tbl:=⟨[(256,0,0),(256,1,1)],[],[24,25,65]⟩
theorem us:Tus.Ok Tryz.prog:=.of (⟨⟨_,Tryz.underlying24⟩,⟨_,Tryz.underlying25⟩,⟨_,Tryz.underlying65⟩,trivial⟩)
def bookV (A1 A2:Option Addr)(n c1 c2:Nat):Value:=.agg #[.slice A1 n c1,.slice A2 n c2]
theorem floor_eq {a b:Int}(hb:0<b):(a.tmod b<0->a.tdiv b-1=a/b)/\(¬ a.tmod b<0->a.tdiv b=a/b):=by
 have h1:=Int.tmod_add_mul_tdiv a b
 have h2:=Int.tmod_lt_of_pos a hb
 have h3:-b<a.tmod b:=by
   rcases Int.le_total 0 a with h | h
   . have:=Int.tmod_nonneg b h;omega
   . have h4:=Int.tmod_nonneg b (show 0<=-a by omega)
     have h5:=Int.tmod_lt_of_pos (-a) hb
     rw [Int.neg_tmod] at h4 h5
     omega
 constructor
 . intro h
   refine ((Int.ediv_emod_unique (a:=a) (b:=b) (r:=a.tmod b+b) (q:=a.tdiv b-1) hb).2 ⟨?_,by omega,by omega⟩).1.symm
   rw [Int.mul_sub,Int.mul_one];omega
 . intro h
   exact ((Int.ediv_emod_unique (a:=a) (b:=b) (r:=a.tmod b) (q:=a.tdiv b) hb).2 ⟨h1,by omega,h2⟩).1.symm
theorem tdiv_in {a b:Int}{M:Int}(hb:0<b)(h1:-M<=a)(h2:a<=M):-M<=a.tdiv b/\a.tdiv b<=M:=by
 rcases Int.le_total 0 a with h | h
 . rw [Int.tdiv_eq_ediv_of_nonneg h]
   have h3:=Int.ediv_nonneg h (Int.le_of_lt hb)
   have h4:=Int.ediv_le_self b h
   omega
 . have h3:=Int.ediv_nonneg (show 0<=-a by omega) (Int.le_of_lt hb)
   have h4:=Int.ediv_le_self b (show 0<=-a by omega)
   have h5:a.tdiv b=-((-a)/b):=by rw [<- Int.tdiv_eq_ediv_of_nonneg (show 0<=-a by omega),Int.neg_tdiv,Int.neg_neg]
   omega
theorem ediv_in {a b:Int}{M:Int}(hb:0<b)(h1:-M<=a)(h2:a<=M):-M<=a/b/\a/b<=M:=by
 rcases Int.le_total 0 a with h | h
 . have h3:=Int.ediv_nonneg h (Int.le_of_lt hb)
   have h4:=Int.ediv_le_self b h
   omega
 . have h5:a/b<=0:=by have:=Int.ediv_le_ediv hb h;simpa using this
   have h6:-M<=a/b:=(Int.le_ediv_iff_mul_le hb).2 (by
    have h7:(M)*1<=M*b:=Int.mul_le_mul_of_nonneg_left (by omega) (by omega)
    rw [Int.neg_mul];omega)
   omega
def StepB (x:Int):Prop:=1<=x/\x<=100000
def codeB (lo st x:Int):Int:=min (max ((x-lo+st/2)/st) 0) 255
def codeF (los sts xs:List Int):List Int:=(List.range los.length).map fun i=>codeB (los.getD i 0) (sts.getD i 0) (xs.getD i 0)
def backB (lo st c:Int):Int:=min (max (lo+st*c) (-1048576)) 1048576
def backF (los sts cs:List Int):List Int:=(List.range los.length).map fun i=>backB (los.getD i 0) (sts.getD i 0) (cs.getD i 0)
def u8i (c:Int):Value:=.int .u8 c
def Byte (c:Int):Prop:=0<=c/\c<=255
theorem codeB_in (lo st x:Int):Byte (codeB lo st x):=by unfold codeB Byte;omega
theorem backB_in (lo st x:Int):InB (backB lo st x):=by unfold backB InB;omega
theorem mulb2 {s c:Int}(hs:StepB s)(hc:Byte c):0<=s*c/\s*c<=25500000:=by
 obtain⟨s1,s2⟩:=hs
 obtain⟨c1,c2⟩:=hc
 have h1:=Int.mul_nonneg (show 0<=s by omega) c1
 have h2:s*c<=s*255:=Int.mul_le_mul_of_nonneg_left c2 (by omega)
 omega
theorem getD_at {xs:List Int}{i:Nat}(h:i<xs.length):xs[i]?=some (xs.getD i 0):=by rw [List.getD_eq_getElem?_getD,List.getElem?_eq_getElem h];rfl
theorem rd_at {f:Int->Value}{xs:List Int}{i:Nat}(h:i<xs.length):(xs.map f)[((i:Nat):Int).toNat*1]?=some (f (xs.getD i 0)):=by rw [Int.toNat_natCast,Nat.mul_one,List.getElem?_map,getD_at h];rfl
section
variable (W:World)(B:Nat)
theorem quant_right1 (x:Int)(rows:List Row):Spec prog W B 277 [i32v x] rows (fun r post=>r=.bool (decide (x<1))/\post=rows):=by
 refine Spec.eG [rows] func277 ntmps277 fun w0=>?_
 refine CW.go us 8 rfl (LW.lss (decide (x<1)) rfl rfl (rfl) rfl ?_)
 refine LW.go us 4 rfl ?_
 refine NW.r1 ⟨_,⟨rfl,rfl⟩,?_⟩
 exact Sub.one .t
theorem quant_right (A1 A2:Option Addr)(c1 c2:Nat)(los sts:List Int)(rows:List Row)(hlen:sts.length=los.length)(h2:VecAt W B rows (.slice A2 sts.length c2) sts)(hst:∀ x∈sts,StepB x)(hm:sts.length<=1000) :
  Spec prog W B 225 [bookV A1 A2 los.length c1 c2] rows (fun r post=>r=.bool true/\post=rows):=by
 have hany:sts.any (fun x=>decide (x<1))=false:=by
  rw [List.any_eq_false]
  intro x hx
  have:=hst x hx
  unfold StepB at this
  simp;omega
 rw [hlen] at h2
 refine Spec.eG [rows] func225 ntmps225 fun w0=>?_
 refine CW.go us 2 rfl (LW.bx ?_)
 intro bb1
 refine LW.go us 6 rfl (LW.ld one24 ?_)
 refine LW.go us 2 rfl (LW.ld one24 ?_)
 refine LW.go us 1 rfl (LW.eql true rfl rfl (by simp) rfl ?_)
 refine LW.go us 4 rfl (LW.ld one24 ?_)
 refine LW.go us 1 rfl (LW.eG (ctf_276 W B rows (.slice A2 los.length c2) sts i32v (fun x=>decide (x<1)) 277 [] cl277 (by rw [<- hlen] at h2 |-;exact h2) (by omega) (fun x _=>quant_right1 W B x rows)) cl276 ?_)
 rw [hany]
 refine LW.go us 7 rfl ?_
 refine NW.r1 ⟨_,⟨rfl,rfl⟩,?_⟩
 exact Sub.one .t
theorem quant_floor (a b:Int)(hb:0<b)(h1:-1000000000000<=a)(h2:a<=1000000000000)(hb2:b<=1000000000000):Spec prog W B 238 [.int .i64 a,.int .i64 b] [] (fun r post=>r=.int .i64 (a/b)/\post=[]):=by
 have hf:=floor_eq (a:=a) hb
 have hi:=tdiv_in hb h1 h2
 by_cases h:a.tmod b<0
 . rw [<- hf.1 h]
   refine Spec.eG [] func238 ntmps238 fun w0=>?_
   refine CW.go us 9 rfl (LW.quo (a.tdiv b) rfl rfl (by omega) (by exact wr64 rfl (by omega) (by omega)) rfl ?_)
   refine LW.go us 8 rfl (LW.rem (a.tmod b) rfl rfl (by omega) (rfl) rfl ?_)
   refine LW.lss true rfl rfl (decide_eq_true h) rfl ?_
   refine LW.go us 5 rfl (LW.sub (a.tdiv b-1) rfl rfl w6 rfl ?_)
   refine LW.go us 10 rfl ?_
   refine NW.r1 ⟨_,⟨rfl,rfl⟩,?_⟩
   exact Sub.nil _
 . rw [<- hf.2 h]
   refine Spec.eG [] func238 ntmps238 fun w0=>?_
   refine CW.go us 9 rfl (LW.quo (a.tdiv b) rfl rfl (by omega) (by exact wr64 rfl (by omega) (by omega)) rfl ?_)
   refine LW.go us 8 rfl (LW.rem (a.tmod b) rfl rfl (by omega) (rfl) rfl ?_)
   refine LW.lss false rfl rfl (decide_eq_false h) rfl ?_
   refine LW.go us 12 rfl ?_
   refine NW.r1 ⟨_,⟨rfl,rfl⟩,?_⟩
   exact Sub.nil _
theorem quant_Code (A1 A2:Option Addr)(c1 c2:Nat)(los sts xs:List Int)(v:Value)(rows:List Row)(hlen:sts.length=los.length)(hxl:xs.length=los.length)(hl1:VecAt W B rows (.slice A1 los.length c1) los)(hl2:VecAt W B rows (.slice A2 sts.length c2) sts)(hv:VecAt W B rows v xs)
   (hlo:∀ x∈los,InB x) (hst:∀ x∈sts,StepB x) (hx:∀ x∈xs,InB x) (hm:los.length<=1000) :
   Spec prog W B 170 [bookV A1 A2 los.length c1 c2,v] rows (fun r post=>∃ b,r=.slice (sA b) los.length los.length/\post=[cr b 5 ((codeF los sts xs).map u8i)]++rows):=by
 have hz:∀ m,(madeCells (Value.int .u8 0).cells (m*1)).toList=List.replicate m (.int .u8 0):=fun m=>by
   rw [Nat.mul_one]
   exact madeCells_rep _ _ _ (by intro x hx;simp [Value.cells] at hx;exact hx) (by simp [Value.cells])
 have hcl:(codeF los sts xs).length=los.length:=by simp [codeF]
 obtain⟨A,cp,rfl,hcp,hl,hsrc,hA⟩:=hv
 obtain⟨A1',cp1',he1,hcp1,hl1',hsrc1,hA1⟩:=hl1
 injection he1 with e1 e2 e3
 subst e1 e3
 have hl2':=hl2
 obtain⟨A2',cp2',he2,hcp2,hl2'',hsrc2,hA2⟩:=hl2'
 injection he2 with e4 e5 e6
 subst e4 e6
 refine Spec.eG [rows] func170 ntmps170 fun w0=>?_
 refine CW.go us 2 rfl (LW.bx ?_)
 intro bb2
 refine LW.go us 5 rfl ?_
 have hbk:∀ j v,[Value.slice A1 los.length c1,.slice A2 los.length c2][j]?=some v->[Value.slice A1 los.length c1,.slice A2 los.length c2][0+j]?=some v:=fun j v hj=>by rw [Nat.zero_add];exact hj
 refine CW.go us 1 rfl (LW.loadAgg ([.slice A1 los.length c1,.slice A2 los.length c2]) rfl .t (hbk) underlying256 rfl (sze szt256) rfl ?_)
 refine LW.cG (quant_right W B A1 A2 c1 c2 los sts rows hlen hl2 hst (by omega)) cl225 ?_
 rintro _ qq ⟨rfl,hqq⟩;rw [hqq];clear hqq
 refine LW.go us 9 rfl (LW.ld one24 ?_)
 refine LW.go us 1 rfl (LW.make (los.length) (los.length) (List.replicate los.length (.int .u8 0)) rfl rfl (by first | rfl | omega) (by first | rfl | omega) underlying65 info5 (by omega) (by omega) (by omega) (hz _) rfl ?_)
 intro bm15
 refine LW.go us 12 rfl ?_
 refine CW.loopG (fun i:Nat=>[(18,iN i),(17,iN los.length),(5,.slice (sA bm15) los.length los.length),(2,ptr bb2),(1,.slice A xs.length cp)]) (fun i=>[[cr bm15 5 (((codeF los sts xs).take i).map u8i++List.replicate (los.length-i) (.int .u8 0))],rows,[cr bb2 256 [.slice A1 los.length c1,.slice A2 los.length c2]]]) (fun i=>i<=los.length) (fun i=>los.length-i) 0 (by exact Nat.zero_le _) rfl (by repeat' constructor) ?_
 rintro i hi
 refine CW.go us 2 rfl (LW.lss (decide ((i:Int)<(los.length:Int))) rfl rfl (rfl) rfl ?_)
 refine LW.go us 3 rfl ?_
 refine CW.cond rfl (fun hc19=>?_) (fun hc19=>?_)
 . have hin:i<los.length:=oT hc19
   obtain⟨a,rfl⟩:∃ x,A=some x:=smA hA
   obtain⟨a1,rfl⟩:∃ x,A1=some x:=smA hA1
   obtain⟨a2,rfl⟩:∃ x,A2=some x:=smA hA2
   have g0:=rd_at (f:=i32v) (xs:=xs) (i:=i) (by omega)
   have g1:=rd_at (f:=i32v) (xs:=los) (i:=i) hin
   have g2:=rd_at (f:=i32v) (xs:=sts) (i:=i) (by omega)
   have b0:=getD_in hx i
   have b1:=getD_in hlo i
   have b2:=hst (sts.getD i 0) (List.mem_of_getElem? (getD_at (by omega)))
   have hci:(codeF los sts xs)[i]?=some (codeB (los.getD i 0) (sts.getD i 0) (xs.getD i 0)):=by simp [codeF,hin]
   generalize hgx:xs.getD i 0=x at *
   generalize hgl:los.getD i 0=lo at *
   generalize hgs:sts.getD i 0=st at *
   unfold InB at b0 b1
   have b2':=b2
   unfold StepB at b2
   have hfi:=ediv_in (a:=x-lo+st/2) (b:=st) (M:=10000000) (by omega) (by omega) (by omega)
   have hby:Byte (codeB lo st x):=codeB_in lo st x
   unfold Byte at hby
   refine CW.go us 15 rfl (LW.lssT ?_)
   refine LW.go us 4 rfl (CW.quiet mixed (by kernel_rfl) ?_)
   refine QW.step (Yl.fieldAddr _ rfl (fun _=>fa256_0 _ _ _)) rfl ?_
   refine QW.step (Yl.loadSt rfl .t rfl one24) rfl ?_
   refine QW.mv ?_
   refine QW.step (Yl.indexAt rfl rfl underlying24 ixs24 (by omega) (by omega)) rfl ?_
   refine QW.step (Yl.loadRd (v:=.int .i32 lo) rfl (hsrc1.rd .t) (g1) one21) rfl ?_
   refine QW.step (Yl.convInt (lo) rfl underlying21 underlying2 (by exact wr64 rfl (by omega) (by omega))) rfl ?_
   refine QW.step (Yl.fieldAddr _ rfl (fun _=>fa256_1 _ _ _)) rfl ?_
   refine QW.step (Yl.loadSt rfl .t rfl one24) rfl ?_
   refine QW.mv ?_
   refine QW.step (Yl.indexAt rfl rfl underlying24 ixs24 (by omega) (by omega)) rfl ?_
   refine QW.step (Yl.loadRd (v:=.int .i32 st) rfl (hsrc2.rd .t) (g2) one21) rfl ?_
   refine QW.step (Yl.convInt (st) rfl underlying21 underlying2 (by exact wr64 rfl (by omega) (by omega))) rfl ?_
   refine QW.step (Yl.assign rfl) rfl ?_
   refine QW.step (Yl.assign rfl) rfl ?_
   refine QW.nil ?_
   refine NW.go us 6 rfl (LW.indexAt rfl rfl underlying25 ixs25 (by omega) (by omega) rfl ?_)
   refine LW.loadRd (v:=.int .i32 x) rfl (hsrc.rd .t) (g0) one21 rfl ?_
   refine LW.convInt (x) rfl underlying21 underlying2 (by exact wr64 rfl (by omega) (by omega)) rfl ?_
   refine LW.go us 1 rfl (LW.sub (x-lo) rfl rfl w6 rfl ?_)
   refine LW.go us 1 rfl (LW.quo (st/2) rfl rfl (by decide) (by rw [Int.tdiv_eq_ediv_of_nonneg (by omega)];exact wr64 rfl (by omega) (by omega)) rfl ?_)
   refine LW.ad (x-lo+st/2) ?_
   refine LW.go us 1 rfl (LW.eT (quant_floor W B (x-lo+st/2) st (by omega) (by omega) (by omega) (by omega)) cl238 (Take.none _) ?_)
   refine LW.max2 (max ((x-lo+st/2)/st) 0) rfl rfl (by split<;>omega) rfl ?_
   refine LW.min2 (codeB lo st x) rfl rfl (by unfold codeB;split<;>omega) rfl ?_
   refine LW.convInt (codeB lo st x) rfl underlying2 underlying5 (IntWalk.u8_in _ hby) rfl ?_
   refine LW.indexAddr (i) rfl rfl underlying65 ixs65 (by omega) (by omega) (by simp) rfl ?_
   refine LW.store rfl rfl .t (by simp [hcl];omega) sz5 (rfl) ?_
   refine LW.go us 3 rfl ?_
   rw [show (((codeF los sts xs).take i).map u8i++List.replicate (los.length-i) (Value.int .u8 0)).set i (.int .u8 (codeB lo st x))=((codeF los sts xs).take (i+1)).map u8i++List.replicate (los.length-(i+1)) (.int .u8 0) from set_fill u8i _ hci hcl.symm]
   refine CW.go us 1 rfl (LW.ad ((i+1:Int)) ?_)
   exact LW.go us 2 rfl (NW.mG (i+1) (by exact⟨hin,by omega⟩))
 . have hin:i=los.length:=oF hc19
   refine CW.go us 2 rfl (NW.then_exit (NW.go us 9 rfl ?_))
   refine NW.r1 ⟨_,⟨bm15,rfl,rfl⟩,?_⟩
   rw [hin,List.take_of_length_le (by omega),Nat.sub_self,List.replicate_zero,List.append_nil];exact .s2
theorem quant_Back (A1 A2:Option Addr)(c1 c2:Nat)(los sts cs:List Int)(v:Value)(rows:List Row)(hlen:sts.length=los.length)(hxl:cs.length=los.length)(hl1:VecAt W B rows (.slice A1 los.length c1) los)(hl2:VecAt W B rows (.slice A2 sts.length c2) sts)(hv:SlAt W B rows v cs.length (cs.map u8i) 1)
   (hlo:∀ x∈los,InB x) (hst:∀ x∈sts,StepB x) (hx:∀ x∈cs,Byte x) (hm:los.length<=1000) :
   Spec prog W B 149 [bookV A1 A2 los.length c1 c2,v] rows (fun r post=>∃ b,r=.slice (sA b) los.length los.length/\post=[cr b 21 ((backF los sts cs).map i32v)]++rows):=by
 have hz:∀ m,(madeCells (Value.int .i32 0).cells (m*1)).toList=List.replicate m (.int .i32 0):=fun m=>by
   rw [Nat.mul_one]
   exact madeCells_rep _ _ _ (by intro x hx;simp [Value.cells] at hx;exact hx) (by simp [Value.cells])
 have hcl:(backF los sts cs).length=los.length:=by simp [backF]
 obtain⟨A,cp,rfl,hcp,hl,hsrc,hA⟩:=hv
 obtain⟨A1',cp1',he1,hcp1,hl1',hsrc1,hA1⟩:=hl1
 injection he1 with e1 e2 e3
 subst e1 e3
 have hl2':=hl2
 obtain⟨A2',cp2',he2,hcp2,hl2'',hsrc2,hA2⟩:=hl2'
 injection he2 with e4 e5 e6
 subst e4 e6
 refine Spec.eG [rows] func149 ntmps149 fun w0=>?_
 refine CW.go us 2 rfl (LW.bx ?_)
 intro bb2
 refine LW.go us 5 rfl ?_
 have hbk:∀ j v,[Value.slice A1 los.length c1,.slice A2 los.length c2][j]?=some v->[Value.slice A1 los.length c1,.slice A2 los.length c2][0+j]?=some v:=fun j v hj=>by rw [Nat.zero_add];exact hj
 refine CW.go us 1 rfl (LW.loadAgg ([.slice A1 los.length c1,.slice A2 los.length c2]) rfl .t (hbk) underlying256 rfl (sze szt256) rfl ?_)
 refine LW.cG (quant_right W B A1 A2 c1 c2 los sts rows hlen hl2 hst (by omega)) cl225 ?_
 rintro _ qq ⟨rfl,hqq⟩;rw [hqq];clear hqq
 refine LW.go us 9 rfl (LW.ld one24 ?_)
 refine LW.go us 1 rfl (LW.make (los.length) (los.length) (List.replicate los.length (.int .i32 0)) rfl rfl (by first | rfl | omega) (by first | rfl | omega) underlying25 info21 (by omega) (by omega) (by omega) (hz _) rfl ?_)
 intro bm14
 refine LW.go us 12 rfl ?_
 refine CW.loopG (fun i:Nat=>[(17,iN i),(16,iN los.length),(5,.slice (sA bm14) los.length los.length),(2,ptr bb2),(1,.slice A cs.length cp)]) (fun i=>[[cr bm14 21 (((backF los sts cs).take i).map i32v++List.replicate (los.length-i) (.int .i32 0))],rows,[cr bb2 256 [.slice A1 los.length c1,.slice A2 los.length c2]]]) (fun i=>i<=los.length) (fun i=>los.length-i) 0 (by exact Nat.zero_le _) rfl (by repeat' constructor) ?_
 rintro i hi
 refine CW.go us 2 rfl (LW.lss (decide ((i:Int)<(los.length:Int))) rfl rfl (rfl) rfl ?_)
 refine LW.go us 3 rfl ?_
 refine CW.cond rfl (fun hc18=>?_) (fun hc18=>?_)
 . have hin:i<los.length:=oT hc18
   obtain⟨a,rfl⟩:∃ x,A=some x:=smA hA
   obtain⟨a1,rfl⟩:∃ x,A1=some x:=smA hA1
   obtain⟨a2,rfl⟩:∃ x,A2=some x:=smA hA2
   have g0:=rd_at (f:=u8i) (xs:=cs) (i:=i) (by omega)
   have g1:=rd_at (f:=i32v) (xs:=los) (i:=i) hin
   have g2:=rd_at (f:=i32v) (xs:=sts) (i:=i) (by omega)
   have b0:=hx (cs.getD i 0) (List.mem_of_getElem? (getD_at (by omega)))
   have b1:=getD_in hlo i
   have b2:=hst (sts.getD i 0) (List.mem_of_getElem? (getD_at (by omega)))
   have hci:(backF los sts cs)[i]?=some (backB (los.getD i 0) (sts.getD i 0) (cs.getD i 0)):=by simp [backF,hin]
   generalize hgx:cs.getD i 0=x at *
   generalize hgl:los.getD i 0=lo at *
   generalize hgs:sts.getD i 0=st at *
   have hmb:=mulb2 b2 b0
   unfold InB at b1
   unfold Byte at b0
   unfold StepB at b2
   have hby:InB (backB lo st x):=backB_in lo st x
   unfold InB at hby
   refine CW.go us 13 rfl (LW.ld one24 ?_)
   refine LW.go us 1 rfl (LW.indexAt rfl rfl underlying24 ixs24 (by omega) (by omega) rfl ?_)
   refine LW.loadRd (v:=.int .i32 lo) rfl (hsrc1.rd .t) (g1) one21 rfl ?_
   refine LW.convInt (lo) rfl underlying21 underlying2 (by exact wr64 rfl (by omega) (by omega)) rfl ?_
   refine LW.go us 9 rfl (LW.lssT ?_)
   refine LW.go us 3 rfl (CW.quiet mixed (by kernel_rfl) ?_)
   refine QW.mv ?_
   refine QW.step (Yl.fieldAddr _ rfl (fun _=>fa256_1 _ _ _)) rfl ?_
   refine QW.step (Yl.loadSt rfl .t rfl one24) rfl ?_
   refine QW.mv ?_
   refine QW.step (Yl.indexAt rfl rfl underlying24 ixs24 (by omega) (by omega)) rfl ?_
   refine QW.step (Yl.loadRd (v:=.int .i32 st) rfl (hsrc2.rd .t) (g2) one21) rfl ?_
   refine QW.step (Yl.convInt (st) rfl underlying21 underlying2 (by exact wr64 rfl (by omega) (by omega))) rfl ?_
   refine QW.mv ?_
   refine QW.mv ?_
   refine QW.step (Yl.indexAt rfl rfl underlying65 ixs65 (by omega) (by omega)) rfl ?_
   refine QW.step (Yl.loadRd (v:=.int .u8 x) rfl (hsrc.rd .t) (g0) one5) rfl ?_
   refine QW.step (Yl.convInt (x) rfl underlying5 underlying2 (by exact wr64 rfl (by omega) (by omega))) rfl ?_
   refine QW.step (Yl.mul (st*x) rfl rfl (by exact wr64 rfl (by omega) (by omega))) rfl ?_
   refine QW.step (Yl.add (lo+st*x) rfl rfl (by exact wr64 rfl (by omega) (by omega))) rfl ?_
   refine QW.step (Yl.assign rfl) rfl ?_
   refine QW.nil ?_
   refine NW.go us 5 rfl (LW.max2 (max (lo+st*x) (-1048576)) rfl rfl (by split<;>omega) rfl ?_)
   refine LW.min2 (backB lo st x) rfl rfl (by unfold backB;split<;>omega) rfl ?_
   refine LW.convInt (backB lo st x) rfl underlying2 underlying21 (by exact wr32 rfl (by omega) (by omega)) rfl ?_
   refine LW.indexAddr (i) rfl rfl underlying25 ixs25 (by omega) (by omega) (by simp) rfl ?_
   refine LW.store rfl rfl .t (by simp [hcl];omega) sz21 (rfl) ?_
   refine LW.go us 3 rfl ?_
   rw [show (((backF los sts cs).take i).map i32v++List.replicate (los.length-i) (Value.int .i32 0)).set i (.int .i32 (backB lo st x))=((backF los sts cs).take (i+1)).map i32v++List.replicate (los.length-(i+1)) (.int .i32 0) from set_fill i32v _ hci hcl.symm]
   refine CW.go us 1 rfl (LW.ad ((i+1:Int)) ?_)
   exact LW.go us 2 rfl (NW.mG (i+1) (by exact⟨hin,by omega⟩))
 . have hin:i=los.length:=oF hc18
   refine CW.go us 2 rfl (NW.then_exit (NW.go us 9 rfl ?_))
   refine NW.r1 ⟨_,⟨bm14,rfl,rfl⟩,?_⟩
   rw [hin,List.take_of_length_le (by omega),Nat.sub_self,List.replicate_zero,List.append_nil];exact .s2
end
open Go.RowKit Go.Sort Go.Shelf
def cfH (x y:Int×Int):Int:=if lessH x y=true then -1 else 1
theorem ltOf_cfH (x y:Int×Int):ltOf cfH x y=lessH x y:=by
 unfold ltOf cfH
 cases lessH x y<;>rfl
theorem swoH:SWO (ltOf cfH):=by
 have e:ltOf cfH=lessH:=by funext x y;exact ltOf_cfH x y
 rw [e]
 refine⟨fun x=>by simp [lessH],fun x y z h1 h2=>?_,fun x y z h1 h2=>?_⟩
 . unfold lessH at *
   split at h1<;>split at h2<;>split<;>simp_all<;>omega
 . unfold lessH at *
   split at h1<;>split at h2<;>split<;>simp_all<;>omega
set_option maxHeartbeats 1000000 in
theorem less_calls (x y:Int×Int)(W:World):Calls prog 217 #[.agg #[.int .i64 x.1,.int .i64 x.2],.agg #[.int .i64 y.1,.int .i64 y.2]] W fun e w'=>e=.returned (.bool (lessH x y))/\∃ q os',w'=grow (W.drewN q) os':=by
 by_cases h:x.2=y.2
 . go_enter func217,ntmps217
   go_wp2
   go_ret
   exact⟨by simp [lessH,h],0,_,by rw [alloc_eq_grow,alloc_eq_grow,grow_grow];rfl⟩
 . go_enter func217,ntmps217
   go_wp2
   go_ret
   exact⟨by simp [lessH,h],0,_,by rw [alloc_eq_grow,alloc_eq_grow,grow_grow];rfl⟩
set_option maxHeartbeats 1000000 in
theorem order1_calls (x y:Int×Int)(W:World):Calls prog 216 #[.agg #[.int .i64 x.1,.int .i64 x.2],.agg #[.int .i64 y.1,.int .i64 y.2]] W fun e w'=>e=.returned (.int .i64 (cfH x y))/\∃ q os',w'=grow (W.drewN q) os':=by
 have hcon:=fun W'=>less_calls x y W'
 have hcf:cfH x y=if lessH x y=true then -1 else 1:=rfl
 rw [hcf]
 generalize lessH x y=r at hcon |-
 cases r
 . go_enter func216,ntmps216
   go_wp2_with (go_at_call 217;refine (hcon _).mono ?_;rintro e w' ⟨rfl,q,os',rfl⟩)
   go_ret
   refine⟨rfl,q,#[Obj.cells #[.int .i64 x.1,.int .i64 x.2] 72]++(#[Obj.cells #[.int .i64 y.1,.int .i64 y.2] 72]++os'),?_⟩
   rw [alloc_eq_grow,alloc_eq_grow]
   show grow (grow (grow (W.drewN q) _) _) os'=_
   rw [grow_grow,grow_grow]
 . go_enter func216,ntmps216
   go_wp2_with (go_at_call 217;refine (hcon _).mono ?_;rintro e w' ⟨rfl,q,os',rfl⟩)
   go_ret
   refine⟨rfl,q,#[Obj.cells #[.int .i64 x.1,.int .i64 x.2] 72]++(#[Obj.cells #[.int .i64 y.1,.int .i64 y.2] 72]++os'),?_⟩
   rw [alloc_eq_grow,alloc_eq_grow]
   show grow (grow (grow (W.drewN q) _) _) os'=_
   rw [grow_grow,grow_grow]
theorem cmpH (blk off size:Nat)(w:World):CmpLays prog 216 #[] hitC 2 cfH blk off size w:=fun _ _ _ _ x y=>order1_calls x y _
theorem hitsC_flat (l:List (Int×Int)):hitsC l=(l.map hitC).flatten:=List.flatMap_def
theorem flat_hits (l:List (Int×Int)):flatK hitC 2 l.toArray=(hitsC l).toArray:=by
 apply Array.ext'
 apply List.ext_getElem?
 intro t
 by_cases h:t<l.length*2
 . have hd:t/2<l.length:=by omega
   have h1:(hitsC l)[t]?=some ((hitC l[t/2])[t % 2]!):=by
    rw [hitsC_flat,flatten_at (sz:=2) (by omega) _ _ (by intro v hv;obtain⟨x,_,rfl⟩:=List.mem_map.1 hv;rfl),List.getElem?_map,List.getElem?_eq_getElem hd]
    have h2:t % 2<(hitC l[t/2]).length:=Nat.mod_lt _ (by omega)
    simp [h2]
   show _=(hitsC l)[t]?
   rw [h1]
   simp [flatK,h,hd]
 . rw [List.getElem?_eq_none (by simp;omega),List.getElem?_eq_none (by simp [hitsC_len];omega)]
def srtH (l:List (Int×Int)):List (Int×Int):=l.mergeSort fun a b=>!lessH b a
theorem lessH_total {a b:Int×Int}(h1:lessH a b=false)(h2:lessH b a=false):a=b:=by
 have e:a.2=b.2/\a.1=b.1:=by
  unfold lessH at *
  split at h1<;>split at h2<;>simp_all<;>omega
 exact Prod.ext e.2 e.1
theorem srtH_eq {l l':List (Int×Int)}(hp:l'.Perm l)(hs:l'.Pairwise fun a b=>lessH b a=false):l'=srtH l:=by
 have tr:∀ a b c:Int×Int,(!lessH b a)=true->(!lessH c b)=true->(!lessH c a)=true:=fun a b c h1 h2=>by
  have:=swoH.ntrans c b a
  rw [ltOf_cfH,ltOf_cfH,ltOf_cfH] at this
  simp only [Bool.not_eq_true',Bool.not_eq_eq_eq_not,Bool.not_true] at *
  exact this h2 h1
 have to:∀ a b:Int×Int,((!lessH b a) || (!lessH a b))=true:=fun a b=>by
  have h1:=swoH.irrefl a
  have h2:=swoH.trans a b a
  rw [ltOf_cfH] at h1
  rw [ltOf_cfH,ltOf_cfH,ltOf_cfH] at h2
  cases hab:lessH a b<;>cases hba:lessH b a<;>simp_all
 refine List.Perm.eq_of_pairwise (le:=fun a b=>lessH b a=false) (fun a b _ _ h1 h2=>lessH_total h2 h1) hs ?_ (hp.trans (List.mergeSort_perm l _).symm)
 exact (List.pairwise_mergeSort tr to l).imp fun h=>by simpa using h
section
variable (W:World)(B:Nat)
theorem sort_hits (b cap:Nat)(l:List (Int×Int))(hl:l.length<=1000000) :
   Spec prog W B 215 [.slice (sA b) l.length cap,.func (.func 216) #[] #[]] [cr b 72 (hitsC l)] (fun r post=>r=.tuple #[]/\post=[cr b 72 (hitsC (srtH l))]):=fun w ho hp=>by
 have hb:w.heap[b]?=some (.cells (hitsC l).toArray 72 (0,0)):=(hp.2 (cr b 72 (hitsC l)) (by simp)).2
 have hbl:=row_lt hb
 have hH:HoldsK hitC 2 w b 0 l.toArray:=by
   unfold HoldsK
   rw [flat_hits]
   intro j hj
   have hj':j<(hitsC l).length:=by simpa using hj
   refine⟨?_,by simp [World.frozen?,hb]⟩
   simp [World.cell?,hb,hj']
 have hc:=AnyQ.slices_SortFunc laySortHit 2 isAgg72 sizeOf72 hitC (fun _=>rfl) hitC_one cfH swoH 216 #[] b 0 cap l.toArray w (enters_of func216 (by kernel_rfl) rfl) (cmpH b 0 _ w) hH hbl (by simp;omega)
 rw [List.size_toArray] at hc
 refine hc.mono ?_
 rintro e w' ⟨rfl,d',n,os,hperm,hsort,rfl⟩
 have hsz:d'.size=l.length:=by simpa using hperm.1
 have hpl:d'.toList.Perm l:=by
   have:=hperm.2.2
   simp at this
   rwa [List.take_of_length_le (by simp [hsz])] at this
 have hpw:d'.toList.Pairwise fun a b=>lessH b a=false:=by
   rw [List.pairwise_iff_getElem]
   intro i j hi hj hij
   have h3:=hsort i j (Nat.zero_le _) hij (by simpa [hsz] using hj)
   rw [ltOf_cfH] at h3
   rw [getElem!_pos d' j (by simpa using hj),getElem!_pos d' i (by simpa using hi)] at h3
   simpa using h3
 have hd':d'=(srtH l).toArray:=by
   rw [<- srtH_eq hpl hpw]
 have hsl:(srtH l).length=l.length:=List.length_mergeSort _
 refine⟨_,_,rfl,⟨rfl,rfl⟩,?_⟩
 have hnew:(sortWorldK hitC 2 w b 0 n d' os).heap[b]?=some (.cells (hitsC (srtH l)).toArray 72 (0,0)):=by
   unfold sortWorldK putRowK
   rw [heap_grow_old _ _ (by simpa using hbl),hd',flat_hits]
   simp only [putRow,mapBlock,Sort.ahead,Array.getElem?_modify,hb,onCells,if_true,Option.map_some]
   congr 2
   apply Array.ext_getElem?
   intro j
   simp only [putCells,Array.getElem?_mapIdx,Nat.zero_le,true_and,Nat.zero_add,Nat.sub_zero,List.size_toArray,id]
   have hll:(hitsC (srtH l)).length=(hitsC l).length:=by rw [hitsC_len,hitsC_len,hsl]
   by_cases hj:j<(hitsC l).length
   . simp [hj,hll]
   . simp [hj,hll]
 have hold:∀ k,k<w.heap.size->k≠b->(sortWorldK hitC 2 w b 0 n d' os).heap[k]?=w.heap[k]?:=fun k hk hne=>by
   unfold sortWorldK putRowK
   rw [heap_grow_old _ _ (by simpa using hk)]
   simp [putRow,mapBlock,Sort.ahead,Array.getElem?_modify,Ne.symm hne]
 refine⟨rfl,rfl,rfl,by simp [sortWorldK,putRowK],⟨by simp,fun r hr=>?_⟩,fun k hk hne=>hold k hk (by simpa using hne),fun r hr=>?_⟩
 . obtain rfl:=List.mem_singleton.1 hr
   exact⟨(hp.2 _ (List.mem_singleton.2 rfl)).1,hnew⟩
 . obtain rfl:=List.mem_singleton.1 hr
   exact .inl (by simp)
end
open Go.RowKit
section
variable {κ α:Type}[DecidableEq κ]
def aget:List (κ×α)->κ->Option α
 | [],_=>none
 | (a,u)::r,k=>if a=k then some u else aget r k
def aset:List (κ×α)->κ->α->List (κ×α)
 | [],k,u=>[(k,u)]
 | (a,w)::r,k,u=>if a=k then (a,u)::r else (a,w)::aset r k u
def adel:List (κ×α)->κ->List (κ×α)
 | [],_=>[]
 | (a,w)::r,k=>if a=k then r else (a,w)::adel r k
def RelM (Rel:Value->α->Prop):List (κ×Value)->List (κ×α)->Prop
 | [],[]=>True
 | x::r,y::s=>x.1=y.1/\Rel x.2 y.2/\RelM Rel r s
 | _,_=>False
variable {Rel Rel':Value->α->Prop}{es:List (κ×Value)}{l:List (κ×α)}{k:κ}{x:α}{u:Value}
theorem RelM.nil:RelM Rel ([]:List (κ×Value)) []:=have _i:=‹DecidableEq κ›;trivial
theorem RelM.mono (h:∀ u x,Rel u x->Rel' u x):∀ {es:List (κ×Value)} {l:List (κ×α)},RelM Rel es l->RelM Rel' es l
 | [],[],_=>have _i:=‹DecidableEq κ›;trivial
 | [],_::_,k=>k.elim
 | _::_,[],k=>k.elim
 | _::_,_::_,⟨h1,h2,h3⟩=>⟨h1,h _ _ h2,RelM.mono h h3⟩
theorem RelM.keys:∀ {es:List (κ×Value)} {l:List (κ×α)},RelM Rel es l->es.map (·.1)=l.map (·.1)
 | [],[],_=>have _i:=‹DecidableEq κ›;rfl
 | [],_::_,k=>k.elim
 | _::_,[],k=>k.elim
 | _::_,_::_,⟨h1,_,h3⟩=>by simp [h1,RelM.keys h3]
theorem RelM.length (h:RelM Rel es l):es.length=l.length:=by have:=congrArg List.length h.keys;simpa using this
theorem RelM.some':∀ {es:List (κ×Value)} {l:List (κ×α)},RelM Rel es l->aget l k=some x->∃ u,mget es k=some u/\Rel u x
 | [],[],_,h=>by cases h
 | [],_::_,k,_=>k.elim
 | _::_,[],k,_=>k.elim
 | (a,w)::r,(b,y)::s,⟨h1,h2,h3⟩,h=>by
  simp only at h1 h2
  subst h1
  simp only [aget,mget] at h |-
  split
  . rename_i he;rw [if_pos he] at h;cases h;exact⟨_,rfl,h2⟩
  . rename_i he;rw [if_neg he] at h;exact RelM.some' h3 h
theorem RelM.none':∀ {es:List (κ×Value)} {l:List (κ×α)},RelM Rel es l->aget l k=none->mget es k=none
 | [],[],_,_=>rfl
 | [],_::_,k,_=>k.elim
 | _::_,[],k,_=>k.elim
 | (a,w)::r,(b,y)::s,⟨h1,h2,h3⟩,h=>by
  simp only at h1
  subst h1
  simp only [aget,mget] at h |-
  split
  . rename_i he;rw [if_pos he] at h;cases h
  . rename_i he;rw [if_neg he] at h;exact RelM.none' h3 h
theorem RelM.set (hu:Rel u x):∀ {es:List (κ×Value)} {l:List (κ×α)},RelM Rel es l->RelM Rel (mset es k u) (aset l k x)
 | [],[],_=>⟨rfl,hu,trivial⟩
 | [],_::_,k=>k.elim
 | _::_,[],k=>k.elim
 | (a,w)::r,(b,y)::s,⟨h1,h2,h3⟩=>by
  simp only at h1 h2
  subst h1
  simp only [aset,mset]
  split
  . exact⟨rfl,hu,h3⟩
  . exact⟨rfl,h2,RelM.set hu h3⟩
theorem RelM.isSome (h:RelM Rel es l):(mget es k).isSome=(aget l k).isSome:=by
 cases ha:aget l k with
 | none=>rw [h.none' ha];rfl
 | some x=>obtain⟨u,hu,_⟩:=h.some' ha;rw [hu];rfl
theorem aget_mem:∀ {l:List (κ×α)},aget l k=some x->(k,x)∈l
 | [],h=>by cases h
 | (a,w)::r,h=>by
  simp only [aget] at h
  split at h
  . rename_i he;cases h;subst he;exact List.mem_cons_self
  . exact List.mem_cons_of_mem _ (aget_mem h)
theorem aget_none:∀ {l:List (κ×α)},aget l k=none↔k∉l.map (·.1)
 | []=>by simp [aget]
 | (a,w)::r=>by
  simp only [aget,List.map_cons,List.mem_cons,not_or]
  split
  . rename_i he;simp [he]
  . rename_i he;rw [aget_none];exact⟨fun h=>⟨fun hh=>he hh.symm,h⟩,fun h=>h.2⟩
theorem aget_some {l:List (κ×α)}(h:k∈l.map (·.1)):∃ x,aget l k=some x:=by
 cases ha:aget l k with
 | none=>exact absurd h (aget_none.1 ha)
 | some x=>exact⟨x,rfl⟩
theorem aget_of_mem:∀ {l:List (κ×α)},(l.map (·.1)).Nodup->(k,x)∈l->aget l k=some x
 | [],_,h=>by cases h
 | (a,w)::r,hn,h=>by
  simp only [List.map_cons,List.nodup_cons] at hn
  simp only [aget]
  rcases List.mem_cons.1 h with h | h
  . cases h;simp
  . rw [if_neg (fun he=>hn.1 (by rw [he];exact List.mem_map.2 ⟨_,h,rfl⟩))];exact aget_of_mem hn.2 h
theorem aget_aset (k':κ):∀ (l:List (κ×α)),aget (aset l k x) k'=if k=k' then some x else aget l k'
 | []=>by simp [aset,aget]
 | (a,w)::r=>by
  simp only [aset]
  split
  . rename_i he;subst he;simp only [aget];split<;>rfl
  . rename_i he
    simp only [aget,aget_aset k' r]
    split
    . rename_i h1;rw [if_neg (fun h2=>he (h1.trans h2.symm))]
    . rfl
theorem aset_keys_mem {l:List (κ×α)}{y:κ×α}(h:y∈aset l k x):y=(k,x)\/y∈l:=by
 induction l with
 | nil=>simp [aset] at h;exact .inl h
 | cons a r ih=>
  simp only [aset] at h
  split at h
  . rename_i he
    rcases List.mem_cons.1 h with h | h
    . left;rw [h,<- he]
    . exact .inr (List.mem_cons_of_mem _ h)
  . rcases List.mem_cons.1 h with h | h
    . right;rw [h];exact List.mem_cons_self
    . rcases ih h with h | h
      . exact .inl h
      . exact .inr (List.mem_cons_of_mem _ h)
theorem aset_nodup:∀ {l:List (κ×α)},(l.map (·.1)).Nodup->((aset l k x).map (·.1)).Nodup
 | [],_=>by simp [aset]
 | (a,w)::r,hn=>by
  simp only [List.map_cons,List.nodup_cons] at hn
  simp only [aset]
  split
  . simp [hn.1,hn.2]
  . rename_i he
    simp only [List.map_cons,List.nodup_cons]
    refine⟨fun hm=>?_,aset_nodup hn.2⟩
    obtain⟨y,hy,hya⟩:=List.mem_map.1 hm
    rcases aset_keys_mem hy with h | h
    . rw [h] at hya;exact he hya.symm
    . exact hn.1 (List.mem_map.2 ⟨y,h,hya⟩)
theorem aset_length:∀ (l:List (κ×α)),(aset l k x).length=if (aget l k).isSome then l.length else l.length+1
 | []=>by simp [aset,aget]
 | (a,w)::r=>by
  simp only [aset,aget]
  split
  . simp
  . simp only [List.length_cons,aset_length r];split<;>rfl
theorem adel_mem {l:List (κ×α)}{y:κ×α}(h:y∈adel l k):y∈l:=by
 induction l with
 | nil=>cases h
 | cons a r ih=>
  simp only [adel] at h
  split at h
  . exact List.mem_cons_of_mem _ h
  . rcases List.mem_cons.1 h with h | h
    . rw [h];exact List.mem_cons_self
    . exact List.mem_cons_of_mem _ (ih h)
def MapR (enc:κ->Value)(Rel:Value->α->Prop)(v:Value)(l:List (κ×α))(ch:List Row):Prop:=∃ es,OwnMap enc v es ch/\RelM Rel es l
theorem MapR.mono {enc:κ->Value}(h:∀ u x,Rel u x->Rel' u x){v:Value}{ch:List Row}(o:MapR enc Rel v l ch):MapR enc Rel' v l ch:=by
 obtain⟨es,h1,h2⟩:=o
 exact⟨es,h1,h2.mono h⟩
theorem MapR.nodup {enc:κ->Value}{kd:TypeDesc}(hk:KeyOk kd enc){v:Value}{ch:List Row}(o:MapR enc Rel v l ch):(l.map (·.1)).Nodup:=by
 obtain⟨es,h1,h2⟩:=o
 rw [<- h2.keys];exact h1.nodup hk
end
open Go.RowKit
def insI (x:Int):List Int->List Int
 | []=>[x]
 | y::r=>if x<=y then x::y::r else y::insI x r
def sI:List Int->List Int
 | []=>[]
 | x::r=>insI x (sI r)
def insH (x:Int×Int):List (Int×Int)->List (Int×Int)
 | []=>[x]
 | y::r=>if lessH y x then y::insH x r else x::y::r
def sH:List (Int×Int)->List (Int×Int)
 | []=>[]
 | x::r=>insH x (sH r)
theorem insI_perm (x:Int):∀ l,(insI x l).Perm (x::l)
 | []=>List.Perm.refl _
 | y::r=>by
  simp only [insI]
  split
  . exact List.Perm.refl _
  . exact ((insI_perm x r).cons y).trans (List.Perm.swap x y r)
theorem sI_perm:∀ l,(sI l).Perm l
 | []=>List.Perm.refl _
 | x::r=>(insI_perm x (sI r)).trans ((sI_perm r).cons x)
theorem insI_sorted (x:Int):∀ {l:List Int},l.Pairwise (·<=·)->(insI x l).Pairwise (·<=·)
 | [],_=>by simp [insI]
 | y::r,h=>by
  simp only [List.pairwise_cons] at h
  simp only [insI]
  split
  . rename_i hxy
    refine List.pairwise_cons.2 ⟨fun z hz=>?_,List.pairwise_cons.2 h⟩
    rcases List.mem_cons.1 hz with rfl | hz
    . exact hxy
    . exact Int.le_trans hxy (h.1 z hz)
  . rename_i hxy
    refine List.pairwise_cons.2 ⟨fun z hz=>?_,insI_sorted x h.2⟩
    rcases List.mem_cons.1 ((insI_perm x r).mem_iff.1 hz) with rfl | hz
    . omega
    . exact h.1 z hz
theorem sI_sorted:∀ l,(sI l).Pairwise (·<=·)
 | []=>List.Pairwise.nil
 | x::r=>insI_sorted x (sI_sorted r)
theorem sorted_unique:∀ {l l':List Int},l.Perm l'->l.Pairwise (·<=·)->l'.Pairwise (·<=·)->l=l':=fun hp h1 h2=>
 List.Perm.eq_of_pairwise (le:=(·<=·)) (fun a b _ _ h1 h2=>Int.le_antisymm h1 h2) h1 h2 hp
theorem srt_sI (l:List Int):srt l=sI l:=by
 refine sorted_unique ((List.mergeSort_perm l _).trans (sI_perm l).symm) ?_ (sI_sorted l)
 refine (List.pairwise_mergeSort (le:=fun x y:Int=>decide (x<=y)) (fun a b c h1 h2=>by simp at *;omega) (fun a b=>by simp;omega) l).imp fun h=>by simpa using h
theorem insH_perm (x:Int×Int):∀ l,(insH x l).Perm (x::l)
 | []=>List.Perm.refl _
 | y::r=>by
  simp only [insH]
  split
  . exact ((insH_perm x r).cons y).trans (List.Perm.swap x y r)
  . exact List.Perm.refl _
theorem sH_perm:∀ l,(sH l).Perm l
 | []=>List.Perm.refl _
 | x::r=>(insH_perm x (sH r)).trans ((sH_perm r).cons x)
theorem lessH_asym {a b:Int×Int}(h:lessH a b=true):lessH b a=false:=by
 unfold lessH at *
 split at h<;>split<;>simp_all<;>omega
theorem lessH_ntrans {a b c:Int×Int}(h1:lessH b a=false)(h2:lessH c b=false):lessH c a=false:=by
 unfold lessH at *
 split at h1<;>split at h2<;>split<;>simp_all<;>omega
theorem insH_sorted (x:Int×Int):∀ {l:List (Int×Int)},l.Pairwise (fun a b=>lessH b a=false)->(insH x l).Pairwise (fun a b=>lessH b a=false)
 | [],_=>by simp [insH]
 | y::r,h=>by
  have h':=h
  simp only [List.pairwise_cons] at h
  simp only [insH]
  split
  . rename_i hxy
    refine List.pairwise_cons.2 ⟨fun z hz=>?_,insH_sorted x h.2⟩
    rcases List.mem_cons.1 ((insH_perm x r).mem_iff.1 hz) with rfl | hz
    . exact lessH_asym hxy
    . exact h.1 z hz
  . rename_i hxy
    have hxy:lessH y x=false:=by simpa using hxy
    refine List.pairwise_cons.2 ⟨fun z hz=>?_,h'⟩
    rcases List.mem_cons.1 hz with rfl | hz
    . exact hxy
    . exact lessH_ntrans hxy (h.1 z hz)
theorem sH_sorted:∀ l,(sH l).Pairwise (fun a b=>lessH b a=false)
 | []=>List.Pairwise.nil
 | x::r=>insH_sorted x (sH_sorted r)
theorem srtH_sH (l:List (Int×Int)):srtH l=sH l:=(srtH_eq (sH_perm l) (sH_sorted l)).symm
def scored (m:Int)(q:List Int)(l:List (Int×List Int)):List (Int×Int):=(sI (l.map (·.1))).map fun id=>(id,scoreL m q ((aget l id).getD []))
def flatS (m:Int)(l:List (Int×List Int))(q:List Int)(k:Nat):List (Int×Int):=bestOf k (scored m q l)
def ordHits (ms:List (List Int))(v:List Int):List (Int×Int):=ms.mapIdx fun i m=>((i:Int),scoreL 1 m v)
def ordP (ms:List (List Int))(v:List Int):List Int:=(sH (ordHits ms v)).map (·.1)
def nearP (ms:List (List Int))(v:List Int):Int:=(ordP ms v).headD (-1)
def sumAt (i:Nat)(vs:List (List Int)):Int:=vs.foldl (fun s v=>s+v.getD i 0) 0
def midP (m:List Int)(vs:List (List Int)):List Int:=if vs=[] then m else (List.range m.length).map fun i=>sumAt i vs/(vs.length:Int)
def midsStep (ms vs:List (List Int)):List (List Int):=ms.mapIdx fun i m=>midP m (vs.filter fun v=>nearP ms v==(i:Int))
def iterP {α:Type}(f:α->α):Nat->α->α
 | 0,x=>x
 | n+1,x=>iterP f n (f x)
def putM (n:Nat)(ms:List (List Int))(v:List Int):List (List Int):=if ms.length<n/\ms.any (fun m=>m==v)=false then ms++[v] else ms
def firstsP (n:Nat)(vs:List (List Int)):List (List Int):=vs.foldl (putM n) []
def midsP (n times:Nat)(vs:List (List Int)):List (List Int):=iterP (fun ms=>midsStep ms vs) times (firstsP n vs)
def ivfNear (ms:List (List Int))(q:List Int):List Int:=if ms=[] then ordP ms q++[0] else (ordP ms q++[0]).take (min ms.length 2)
def ivfHits (m:Int)(ms:List (List Int))(l:List (Int×(List Int×Int)))(q:List Int):List (Int×Int):=
 (sI (l.map (·.1))).filterMap fun id=>match aget l id with
  | some x=>if (ivfNear ms q).contains x.2 then some (id,scoreL m q x.1) else none
  | none=>none
def ivfS (m:Int)(ms:List (List Int))(l:List (Int×(List Int×Int)))(q:List Int)(k:Nat):List (Int×Int):=bestOf k (ivfHits m ms l q)
def ivfPut (ms:List (List Int))(l:List (Int×(List Int×Int)))(id:Int)(v:List Int):List (Int×(List Int×Int)):=aset l id (v,max (nearP ms v) 0)
def codHits (m:Int)(los sts:List Int)(l:List (Int×(List Int×List Int)))(q:List Int):List (Int×Int):=
 (sI (l.map (·.1))).map fun id=>(id,scoreL m q (backF los sts ((aget l id).getD ([],[])).2))
def codBest (m:Int)(los sts:List Int)(l:List (Int×(List Int×List Int)))(q:List Int)(k:Nat):List (Int×Int):=bestOf (2*min k l.length+4) (codHits m los sts l q)
def codS (m:Int)(los sts:List Int)(l:List (Int×(List Int×List Int)))(q:List Int)(k:Nat):List (Int×Int):=
 if k=0 then [] else bestOf k ((codBest m los sts l q k).map fun h=>(h.1,scoreL m q ((aget l h.1).getD ([],[])).1))
structure NodeP where
 v:List Int
 lv:Nat
 ln:List (List Int)
 deriving DecidableEq
abbrev GraP:=List (Int×NodeP)
def GraP.vec (g:GraP)(id:Int):List Int:=match aget g id with
 | some x=>x.v
 | none=>[]
def GraP.lnk (g:GraP)(id:Int)(lv:Nat):List Int:=match aget g id with
 | some x=>x.ln.getD lv []
 | none=>[]
def GraP.hit (m:Int)(g:GraP)(q:List Int)(id:Int):Int×Int:=(id,scoreL m q (g.vec id))
def mostP (lv:Nat):Nat:=if lv=0 then 8 else 4
def seeP (m:Int)(g:GraP)(q:List Int)(n:Nat)(st:List (Int×Int)×List Int)(id:Int):List (Int×Int)×List Int:=
 if st.2.contains id then st else (putB n st.1 (g.hit m q id),id::st.2)
def lookGo (m:Int)(g:GraP)(q:List Int)(lv n:Nat):Nat->List (Int×Int)->List Int->List Int->List Int
 | 0,found,_,_=>found.map (·.1)
 | f+1,found,seen,done=>match (found.map (·.1)).find? fun id=>!done.contains id with
  | none=>found.map (·.1)
  | some x=>
   let st:=(g.lnk x lv).foldl (seeP m g q n) (found,seen)
   lookGo m g q lv n f st.1 st.2 (x::done)
def lookSt (m:Int)(g:GraP)(q:List Int)(n:Nat)(frm:List Int):List (Int×Int)×List Int:=
 frm.foldl (fun st id=>(putB n st.1 (g.hit m q id),id::st.2)) ([],[])
def lookP (m:Int)(g:GraP)(q:List Int)(lv:Nat)(frm:List Int)(n:Nat):List Int:=
 lookGo m g q lv n (g.length+1) (lookSt m g q n frm).1 (lookSt m g q n frm).2 []
def setLn (g:GraP)(id:Int)(lv:Nat)(l:List Int):GraP:=match aget g id with
 | some x=>aset g id { x with ln:=x.ln.set lv l }
 | none=>g
def insU (x:Int)(l:List Int):List Int:=if l.contains x then l else insI x l
def link1 (lv:Nat)(g:GraP)(a b:Int):GraP:=setLn g a lv (insU b (g.lnk a lv))
def linkP (g:GraP)(a b:Int)(lv:Nat):GraP:=link1 lv (link1 lv g a b) b a
def part1 (lv:Nat)(g:GraP)(a b:Int):GraP:=setLn g a lv ((g.lnk a lv).erase b)
def partP (g:GraP)(a b:Int)(lv:Nat):GraP:=part1 lv (part1 lv g a b) b a
def rankedP (m:Int)(g:GraP)(id:Int)(l:List Int):List Int:=(bestOf l.length (l.map (g.hit m (g.vec id)))).map (·.1)
def pruneP (m:Int)(g:GraP)(id:Int)(lv:Nat):GraP:=
 ((rankedP m g id (g.lnk id lv)).drop (min (rankedP m g id (g.lnk id lv)).length (mostP lv))).foldl (fun g x=>partP g id x lv) g
def entryGo (g:GraP):List Int->Int->Int->Int×Int
 | [],id,lv=>(id,lv)
 | x::r,id,lv=>match aget g x with
  | some nd=>if (nd.lv:Int)>lv then entryGo g r x nd.lv else entryGo g r id lv
  | none=>entryGo g r id lv
def entryP (g:GraP):Int×Int:=entryGo g (sI (g.map (·.1))) 0 (-1)
def mayP (g:GraP)(id:Int)(lv:Nat):Bool:=decide ((g.lnk id lv).length<mostP lv)
def mend1 (m:Int)(l:List Int)(lv:Nat)(g:GraP)(id:Int):GraP:=
 let others:=l.filter fun x=>!(x==id || !mayP g x lv || (g.lnk id lv).contains x)
 if mayP g id lv && !others.isEmpty then linkP g id ((rankedP m g id others).headD 0) lv else g
def mendP (m:Int)(g:GraP)(l:List Int)(lv:Nat):GraP:=l.foldl (mend1 m l lv) g
def delLn (g:GraP)(id:Int)(lv:Nat)(l:List Int):GraP:=l.foldl (fun g y=>partP g id y lv) g
def delNode (m:Int)(g:GraP)(id:Int)(x:NodeP):GraP:=
 let g1:=adel ((List.range 5).foldl (fun g lv=>delLn g id lv (x.ln.getD lv [])) g) id
 (List.range 5).foldl (fun g lv=>mendP m g (x.ln.getD lv []) lv) g1
def graDel (m:Int)(g:GraP)(id:Int):GraP:=match aget g id with
 | some x=>delNode m g id x
 | none=>g
def tz32:Nat->Nat->Nat
 | 0,_=>0
 | f+1,d=>if d % 2=1 then 0 else tz32 f (d/2)+1
def levelP (draw:Nat):Nat:=min (tz32 32 draw/2) 4
def downP (m:Int)(g:GraP)(q:List Int)(lo:Nat):Nat->List Int->List Int
 | 0,at_=>at_
 | l+1,at_=>if l+1>lo then downP m g q lo l (lookP m g q (l+1) at_ 1) else at_
def putLv (m:Int)(g:GraP)(id:Int)(lv:Nat)(near:List Int):GraP:=
 near.foldl (fun g y=>pruneP m g y lv) (near.foldl (fun g y=>linkP g id y lv) g)
def putDown (m:Int)(id:Int)(v:List Int):Nat->GraP->List Int->GraP
 | 0,g,_=>g
 | l+1,g,at_=>
  let at2:=lookP m g v l at_ 8
  putDown m id v l (putLv m g id l (at2.take (min at2.length 4))) at2
def graPut (m:Int)(g0:GraP)(id:Int)(v:List Int)(draw:Nat):GraP:=
 let g:=graDel m g0 id
 let en:=entryP g
 let g1:=aset g id ⟨v,levelP draw,List.replicate 5 []⟩
 if en.2<0 then g1 else putDown m id v (min (levelP draw) en.2.toNat+1) g1 (downP m g1 v (levelP draw) en.2.toNat [en.1])
def graS (m:Int)(g:GraP)(q:List Int)(k:Nat):List (Int×Int):=
 if (entryP g).2<0\/k=0 then [] else
  let out:=(lookP m g q 0 (downP m g q 0 (entryP g).2.toNat [(entryP g).1]) (max 8 k)).map (g.hit m q)
  out.take (min out.length k)
open Go.RowKit
structure ItemP where
 id:Int
 vec:List Int
 pay:List UInt8
 seq:Int
 gone:Bool
 deriving DecidableEq
abbrev StoP:=List (Int×ItemP)
def ItemP.none:ItemP:=⟨0,[],[],0,false⟩
def stoSeq (s:StoP)(id:Int):Int:=((aget s id).getD ItemP.none).seq
def stoPutE (s:StoP)(id:Int)(pay:List UInt8)(seq:Int):Int:=
 if id<1\/id>1000 then 2 else if pay.length>40 then 11 else if seq<=stoSeq s id then 1 else 0
def stoPut (s:StoP)(id:Int)(v:List Int)(pay:List UInt8)(seq:Int):StoP:=aset s id ⟨id,v,pay,seq,false⟩
def stoGet (s:StoP)(id:Int):Option ItemP:=match aget s id with
 | .some x=>if x.gone then Option.none else some x
 | .none=>Option.none
def stoItems (s:StoP):List ItemP:=(sI (s.map (·.1))).map fun id=>(aget s id).getD ItemP.none
def stoNext (s:StoP)(after:Int):Option ItemP:=(stoItems s).find? fun i=>decide (i.id>after) && !i.gone
def stoLen (s:StoP):Nat:=((stoItems s).filter fun i=>!i.gone).length
structure ChaP where
 id:Int
 vec:List Int
 draw:Nat
 gone:Bool
 deriving DecidableEq
inductive IxP where
 | flat (l:List (Int×List Int))
 | ivf (ms:List (List Int)) (l:List (Int×(List Int×Int)))
 | graph (g:GraP)
 | coded (los sts:List Int) (l:List (Int×(List Int×List Int)))
structure IdxP where
 metric:Int
 dim:Nat
 x:IxP
def IxP.kind:IxP->Int
 | .flat _=>1
 | .ivf _ _=>2
 | .graph _=>3
 | .coded _ _ _=>4
def idxPut (x:IdxP)(id:Int)(v:List Int)(draw:Nat):IdxP:={ x with x:=match x.x with
 | .flat l=>.flat (aset l id v)
 | .ivf ms l=>.ivf ms (ivfPut ms l id v)
 | .graph g=>.graph (graPut x.metric g id v draw)
 | .coded los sts l=>.coded los sts (aset l id (v,codeF los sts v)) }
def idxDel (x:IdxP)(id:Int):IdxP:={ x with x:=match x.x with
 | .flat l=>.flat (adel l id)
 | .ivf ms l=>.ivf ms (adel l id)
 | .graph g=>.graph (graDel x.metric g id)
 | .coded los sts l=>.coded los sts (adel l id) }
def idxS (x:IdxP)(q:List Int)(k:Nat):List (Int×Int):=match x.x with
 | .flat l=>flatS x.metric l q k
 | .ivf ms l=>ivfS x.metric ms l q k
 | .graph g=>graS x.metric g q k
 | .coded los sts l=>codS x.metric los sts l q k
def idxIds (x:IdxP):List Int:=match x.x with
 | .flat l=>sI (l.map (·.1))
 | .ivf _ l=>sI (l.map (·.1))
 | .graph g=>sI (g.map (·.1))
 | .coded _ _ l=>sI (l.map (·.1))
def idxNew (kind:Int)(metric:Int)(dim:Nat)(vs:List (List Int)):IdxP:=⟨metric,dim,
 if kind=2 then .ivf (midsP 4 3 vs) [] else if kind=3 then .graph [] else if kind=4 then .coded (lows dim vs) (steps dim vs) [] else .flat []⟩
def blocksP (kind:Int)(n:Nat):Nat:=
 if kind=1 then (n+7)/8 else if kind=2 then (n+7)/8+1 else if kind=3 then 2*((n+7)/8+1) else if kind=4 then (n+15)/16+1 else 0
structure MovP where
 now:IdxP
 phase:Int
 paused:Bool
 cursor:Int
 queue:List ChaP
 has:Nat
 tried:Nat
 missed:Nat
def sampleGo (s:StoP):Nat->Int->List (List Int)
 | 0,_=>[]
 | n+1,after=>match stoNext s after with
  | some i=>i.vec::sampleGo s n i.id
  | .none=>[]
def movNew (to metric:Int)(dim:Nat)(s:StoP):MovP:=⟨idxNew to metric dim (sampleGo s 32 0),1,false,0,[],2,0,0⟩
def movFill (m:MovP)(s:StoP)(draw:Nat):Nat->MovP
 | 0=>m
 | n+1=>match stoNext s m.cursor with
  | some i=>movFill { m with now:=idxPut m.now i.id i.vec draw,cursor:=i.id } s draw n
  | .none=>{ m with phase:=2 }
def drain1 (x:IdxP)(c:ChaP):IdxP:=if c.gone then idxDel x c.id else idxPut x c.id c.vec c.draw
def movDrain (m:MovP):MovP:={ m with now:=(m.queue.take 4).foldl drain1 m.now,queue:=m.queue.drop 4 }
def missP (old now:List (Int×Int)):Bool:=match old,now with
 | [],_=>false
 | _::_,[]=>true
 | a::_,b::_=>decide (a.2<b.2)
def probeAt (s:StoP)(draw:Nat):Option ItemP:=match stoNext s (draw % 1000:Nat) with
 | some i=>some i
 | .none=>stoNext s 0
def probeMiss (m:MovP)(old:IdxP)(s:StoP)(draw:Nat):Bool:=match probeAt s draw with
 | some i=>missP (idxS old i.vec 1) (idxS m.now i.vec 1)
 | .none=>false
def movProbe (m:MovP)(old:IdxP)(s:StoP)(draw:Nat):Int×MovP:=
 let m1:={ m with tried:=m.tried+1,missed:=m.missed+(if probeMiss m old s draw then 1 else 0) }
 if m1.missed>1 then (2,{ m1 with phase:=0 }) else if m1.tried>=4 then (1,{ m1 with phase:=0 }) else (0,m1)
def movStep (m0:MovP)(old:IdxP)(s:StoP)(draw:Nat):Int×MovP:=
 let m:={ m0 with has:=min (m0.has+1) 2 }
 if m.phase=1 then (0,movFill m s draw 4)
 else if m.phase=2 then (0,let d:=movDrain m;if d.queue=[] then { d with phase:=3 } else d)
 else if m.phase=3 then (let d:=movDrain m;if d.queue=[] then movProbe d old s draw else (0,d))
 else (0,m)
open Go.RowKit
abbrev Nm:=List UInt8
structure OpP where
 kind:Int
 col:Nm
 name:Nm
 id:Int
 dim:Int
 metric:Int
 index:Int
 vec:List Int
 pay:List UInt8
 k:Int
 draw:Int
structure ColP where
 place:Nat
 dim:Nat
 metric:Int
 s:StoP
 x:IdxP
structure CorP where
 seq:Int
 cols:List (Nm×ColP)
 alias:List (Nm×Nm)
 mv:Option MovP
 of_:Nm
 done:Int
 aborted:Int
 failed:Int
def CorP.new:CorP:=⟨0,[],[],none,[],0,0,0⟩
def letter (b:UInt8):Bool:=!(decide (b<97) || decide (b>122))
def nameOk (s:Nm):Bool:=decide (1<=s.length) && decide (s.length<=12) && s.all letter
def findP (c:CorP)(s:Nm):Option ColP:=match aget c.cols s with
 | some x=>some x
 | none=>aget c.cols ((aget c.alias s).getD [])
def movesP (c:CorP)(s:Nm):Bool:=c.mv.isSome && c.of_==s
def mvKind (c:CorP):Int:=match c.mv with
 | some m=>m.now.x.kind
 | none=>0
def colBlocks (c:CorP)(s:Nm)(x:ColP):Nat:=blocksP x.x.x.kind (stoLen x.s)+if movesP c s then blocksP (mvKind c) (stoLen x.s) else 0
def usedP (c:CorP):Nat:=(c.cols.map fun y=>colBlocks c y.1 y.2).sum
def freeP (c:CorP):Nat:=64-usedP c
def createE (c:CorP)(o:OpP):Int:=
 if nameOk o.col=false then 1 else if (aget c.cols o.col).isSome\/(aget c.alias o.col).isSome then 4 else if o.dim<1\/o.dim>8 then 2
 else if ¬ (o.metric=1\/o.metric=2)\/o.index<1\/o.index>4 then 12 else if c.cols.length>=4 then 5 else if blocksP o.index 0>freeP c then 6 else 0
def moreP (c:CorP)(s:Nm)(x:ColP):Int:=
 ((blocksP x.x.x.kind (stoLen x.s+1):Nat):Int)-(blocksP x.x.x.kind (stoLen x.s):Nat)+if movesP c s then ((blocksP (mvKind c) (stoLen x.s+1):Nat):Int)-(blocksP (mvKind c) (stoLen x.s):Nat) else 0
def thrP (c:CorP)(s:Nm):Bool:=movesP c s && match c.mv with
 | some m=>m.has==0
 | none=>false
def putE (c:CorP)(o:OpP):Int:=match aget c.cols o.col with
 | none=>3
 | some x=>if o.id<1\/o.id>1000 then 2 else if mayV o.vec (x.dim:Int)=false then 1 else if o.pay.length>40 then 11 else if thrP c o.col then 7
  else if (stoGet x.s o.id).isNone/\moreP c o.col x>(freeP c:Int) then 6 else 0
def namesE (c:CorP)(o:OpP):Int:=
 if nameOk o.name=false then 1 else if o.col=[] then (if (aget c.alias o.name).isNone then 3 else 0) else if (aget c.cols o.col).isNone then 3
 else if (aget c.cols o.name).isSome then 4 else if (aget c.alias o.name).isNone/\c.alias.length>=6 then 5 else 0
def colPut (x:ColP)(o:OpP)(seq:Int):ColP:={ x with s:=stoPut x.s o.id o.vec o.pay seq,x:=idxPut x.x o.id o.vec o.draw.toNat }
end Go.Proofs.YtnlpccoigflheaaGreatDoor
