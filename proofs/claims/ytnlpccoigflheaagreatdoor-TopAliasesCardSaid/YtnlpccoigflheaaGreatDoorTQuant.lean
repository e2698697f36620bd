/- TVect NRet TQuant -/
import Derived.Test.YtnlpccoigflheaaGreatDoorTPool2
import Derived.Test.YtnlpccoigflheaaGreatDoorFac
namespace Go.Proofs.YtnlpccoigflheaaGreatDoor
open Go.RowKit
open Go.Proofs.Tryz
def Tur:Tbl:=⟨[],[],[22,25]⟩
theorem ur:Tur.Ok Tryz.prog:=.of (⟨⟨_,Tryz.underlying22⟩,⟨_,Tryz.underlying25⟩,trivial⟩)
def I32 (n:Int):Prop:=-2147483648<=n/\n<=2147483647
theorem InB.i32 {n:Int}(h:InB n):I32 n:=by unfold InB at h;unfold I32;omega
theorem I32.i64 {n:Int}(h:I32 n):I64 n:=by unfold I32 at h;unfold I64;omega
theorem wr32 {p r:Int}(h:p=r)(h0:-2147483648<=r)(h1:r<=2147483647):IntKind.i32.wrap p=r:=by
 subst h
 exact IntWalk.i32_in _ ⟨h0,h1⟩
def encV (xs:List Int):List UInt8:=encZ (xs.length:Int)++encs xs
theorem encs_one (x:Int):encs [x]=encZ x:=by simp [encs]
theorem encs_cons (x:Int)(xs:List Int):encs (x::xs)=encZ x++encs xs:=by simp [encs]
theorem encs_app (xs ys:List Int):encs (xs++ys)=encs xs++encs ys:=by simp [encs]
theorem encV_len (xs:List Int):(encV xs).length<=9+9*xs.length:=by
 have h1:=encs_len xs
 have h2:=sizeZ_le (xs.length:Int)
 rw [encV,List.length_append,encZ_len];omega
theorem set_fill {α β:Type}(f:α->β)(z:β){l:List α}{i n:Nat}{x:α}(hx:l[i]?=some x)(hn:n=l.length) :
  (((l.take i).map f++List.replicate (n-i) z).set i (f x))=(l.take (i+1)).map f++List.replicate (n-(i+1)) z:=by
 have hi:=(List.getElem?_eq_some_iff.1 hx).1
 have h1:((l.take i).map f).length=i:=by simp;omega
 rw [List.set_append_right _ _ (by omega),h1,Nat.sub_self,show n-i=(n-(i+1))+1 by omega,List.replicate_succ,List.set_cons_zero,List.take_add_one,hx]
 simp
section
variable (W:World)(B:Nat)
theorem vect_Put (w:Nat)(v:Value)(bs:List UInt8)(ch rows:List Row)(vv:Value)(xs:List Int)(ho:OwnB v bs ch)(hv:VecAt W B rows vv xs)(hx:∀ x∈xs,I32 x)(hm:xs.length<=1000)(hb:bs.length<=900000000) :
   Spec prog W B 88 [ptr w,vv] (rows++([cr w 99 [v]]++ch))
    (fun r post=>r=.tuple #[]/\∃ v' ch',OwnB v' (bs++encV xs) ch'/\post=rows++([cr w 99 [v']]++ch')):=by
 obtain⟨A,cp,rfl,hcp,hl,hsrc,hA⟩:=hv
 have hI:I64 (xs.length:Int):=⟨by omega,by omega⟩
 have hel:=sizeZ_le (xs.length:Int)
 have hes:=fun i:Nat=>encs_len (xs.take i)
 refine Spec.eG [rows,[cr w 99 [v]],ch] func88 ntmps88 fun w0=>?_
 refine CW.go ur 5 rfl (LW.bs [_] underlying166 info2 ?_)
 intro bs9
 refine LW.cT (bin_WInt W B w v bs ch ho [(xs.length:Int)] (by intro n hn;simp at hn;subst hn;exact hI) [cr bs9 2 [iN xs.length]] (some ⟨bs9,0,none⟩) 1 (Src.row zd) (by simp;omega)) cl40 .n3 ?_
 rintro _ _ ⟨rfl,v1,ch1,ho1,rfl⟩;refine LW.splitA (LW.splitB ?_)
 rw [encs_one] at ho1
 refine LW.go ur 10 rfl ?_
 refine CW.loopG (fun st:Nat×Value×List Row=>[(13,iN st.1),(12,iN xs.length),(11,.slice A xs.length cp),(0,ptr w)]) (fun st=>[rows,[cr w 99 [st.2.1]],st.2.2]) (fun st=>st.1<=xs.length/\OwnB st.2.1 (bs++(encZ (xs.length:Int)++encs (xs.take st.1))) st.2.2) (fun st=>xs.length-st.1) (0,v1,ch1) (by exact⟨Nat.zero_le _,by simpa [encs] using ho1⟩) rfl (by repeat' constructor) ?_
 rintro⟨i,u,c⟩ ⟨hi,hou⟩;dsimp only at hi hou |-
 refine CW.go ur 2 rfl (LW.lss (decide ((i:Int)<(xs.length:Int))) rfl rfl (rfl) rfl ?_)
 refine LW.go ur 3 rfl ?_
 refine CW.cond rfl (fun hc14=>?_) (fun hc14=>?_)
 . have hin:i<xs.length:=oT hc14
   obtain⟨a,rfl⟩:∃ x,A=some x:=smA hA
   obtain⟨x,hxi,hxd⟩:=drop_at hin
   have hg:(xs.map i32v)[((i:Nat):Int).toNat*1]?=some (.int .i32 x):=by rw [Int.toNat_natCast,Nat.mul_one,List.getElem?_map,hxi];rfl
   have hxx:=hx x (List.mem_of_getElem? hxi)
   have hx64:=hxx.i64
   unfold I32 at hxx
   have hesi:=hes i
   rw [List.length_take] at hesi
   refine CW.go ur 6 rfl (LW.indexAt rfl rfl underlying25 ixs25 (by omega) (by omega) rfl ?_)
   refine LW.loadRd (v:=.int .i32 x) rfl (hsrc.rd .t) (hg) one21 rfl ?_
   refine LW.go ur 6 rfl (LW.convInt (x) rfl underlying21 underlying2 (by exact wr64 rfl (by omega) (by omega)) rfl ?_)
   refine LW.bs [_] underlying166 info2 ?_
   intro bs20
   refine LW.cT (bin_WInt W B w u _ c hou [x] (by intro n hn;simp at hn;subst hn;exact hx64) [cr bs20 2 [.int .i64 x]] (some ⟨bs20,0,none⟩) 1 (Src.row zd) (by simp only [List.length_append,encZ_len,List.length_cons,List.length_nil];omega)) cl40 .n3 ?_
   rintro _ _ ⟨rfl,v2,ch2,ho2,rfl⟩;refine LW.splitA (LW.splitB ?_)
   refine LW.go ur 4 rfl (LW.ad ((i+1:Int)) ?_)
   exact LW.go ur 2 rfl (NW.mG ((i+1,v2,ch2)) (by exact⟨⟨hin,by dsimp only;rw [List.take_add_one,hxi,encs_app];simpa [List.append_assoc] using ho2⟩,by dsimp only;omega⟩))
 . have hin:i=xs.length:=oF hc14
   refine CW.go ur 2 rfl (NW.then_exit (NW.go ur 1 rfl ?_))
   refine NW.end0 rfl  ⟨_,⟨rfl,u,c,by rw [hin,List.take_length] at hou;exact hou,rfl⟩,?_⟩
   exact .s3
theorem vect_Get (p:Nat)(v:Value)(xs:List Int)(r:List UInt8)(ch:List Row)(hv:RdS W B v (encV xs++r) ch)(hx:∀ x∈xs,I32 x)(hm:xs.length<=8)(hr:r.length<=900000000) :
   Spec prog W B 250 [ptr p] ([cr p 301 [v,.bool false]]++ch)
    (fun u post=>∃ c v',OwnS 21 1 u xs.length (xs.map i32v) c/\RdS W B v' r ch/\post=c++([cr p 301 [v',.bool false]]++ch)/\u≠.slice none 0 0):=by
 have hI:I64 (xs.length:Int):=⟨by omega,by omega⟩
 have hlen:(encV xs++r).length<=1000000000:=by have:=encV_len xs;rw [List.length_append];omega
 have hz:∀ m,(madeCells (Value.int .i32 0).cells (m*1)).toList=List.replicate m (.int .i32 0):=fun m=>by
   rw [Nat.mul_one]
   exact madeCells_rep _ _ _ (by intro x hx;simp [Value.cells] at hx;exact hx) (by simp [Value.cells])
 refine Spec.eG [[cr p 301 [v,.bool false]]++ch] func250 ntmps250 fun w0=>?_
 refine CW.go ur 8 rfl (LW.cG (bin_RInt_some W B p v (encV xs++r) ch hv hlen (xs.length:Int) (sizeZ (xs.length:Int)+1) (by rw [encV,List.append_assoc];exact getZ_enc hI _)) cl115 ?_)
 rintro _ _ ⟨rfl,v1,hv1,rfl⟩
 rw [encV,List.append_assoc,List.drop_append_of_le_length (by rw [encZ_len];exact Nat.le_refl _),List.drop_eq_nil_of_le (by rw [encZ_len];exact Nat.le_refl _),List.nil_append] at hv1
 refine LW.go ur 7 rfl (LW.eG (bin_Err W B p v1 false ch) cl116 ?_)
 refine LW.neq false rfl rfl (rfl) rfl ?_
 refine LW.go ur 4 rfl (LW.lssF ?_)
 refine LW.go ur 5 rfl (LW.gtrF ?_)
 refine LW.go ur 9 rfl (LW.make (xs.length) (xs.length) (List.replicate xs.length (.int .i32 0)) rfl rfl (by first | rfl | omega) (by first | rfl | omega) underlying25 info21 (by omega) (by omega) (by omega) (hz _) rfl ?_)
 intro bm22
 refine LW.go ur 13 rfl ?_
 refine CW.loopG (fun st:Nat×Value=>[(25,iN st.1),(24,iN xs.length),(5,.bool true),(4,.slice (sA bm22) xs.length xs.length),(0,ptr p)]) (fun st=>[[cr bm22 21 ((xs.take st.1).map i32v++List.replicate (xs.length-st.1) (.int .i32 0))],[cr p 301 [st.2,.bool false]]++ch]) (fun st=>st.1<=xs.length/\RdS W B st.2 (encs (xs.drop st.1)++r) ch) (fun st=>xs.length-st.1) (0,v1) (by exact⟨Nat.zero_le _,hv1⟩) rfl (by repeat' constructor) ?_
 rintro⟨i,u⟩ ⟨hi,hu⟩;dsimp only at hi hu |-
 refine CW.go ur 2 rfl (LW.lss (decide ((i:Int)<(xs.length:Int))) rfl rfl (rfl) rfl ?_)
 refine LW.go ur 3 rfl ?_
 refine CW.cond rfl (fun hc26=>?_) (fun hc26=>?_)
 . have hin:i<xs.length:=oT hc26
   obtain⟨x,hxi,hxd⟩:=drop_at hin
   have hxx:=hx x (List.mem_of_getElem? hxi)
   have hx64:=hxx.i64
   unfold I32 at hxx
   rw [hxd,encs_cons,List.append_assoc] at hu
   have hl2:(encZ x++(encs (xs.drop (i+1))++r)).length<=1000000000:=by have h1:=encs_len (xs.drop (i+1));have h2:=sizeZ_le x;rw [List.length_drop] at h1;simp only [List.length_append,encZ_len];omega
   refine CW.go ur 13 rfl (LW.cG (bin_RInt_some W B p u _ ch hu hl2 x (sizeZ x+1) (getZ_enc hx64 _)) cl115 ?_)
   rintro _ _ ⟨rfl,v2,hv2,rfl⟩
   rw [List.drop_append_of_le_length (by rw [encZ_len];exact Nat.le_refl _),List.drop_eq_nil_of_le (by rw [encZ_len];exact Nat.le_refl _),List.nil_append] at hv2
   refine LW.go ur 8 rfl (LW.convInt (x) rfl underlying2 underlying21 (by exact wr32 rfl (by omega) (by omega)) rfl ?_)
   refine LW.indexAddr (i) rfl rfl underlying25 ixs25 (by omega) (by omega) (by simp) rfl ?_
   refine LW.store rfl rfl .t (by simp;omega) sz21 (rfl) ?_
   refine LW.go ur 2 rfl ?_
   rw [show ((xs.take i).map i32v++List.replicate (xs.length-i) (Value.int .i32 0)).set i (.int .i32 x)=(xs.take (i+1)).map i32v++List.replicate (xs.length-(i+1)) (.int .i32 0) from set_fill i32v (.int .i32 0) hxi rfl]
   refine CW.go ur 6 rfl (LW.geqT ?_)
   refine LW.go ur 5 rfl (LW.leqT ?_)
   refine LW.go ur 6 rfl (LW.ad ((i+1:Int)) ?_)
   exact LW.go ur 2 rfl (NW.mG ((i+1,v2)) (by exact⟨⟨hin,hv2⟩,by dsimp only;omega⟩))
 . have hin:i=xs.length:=oF hc26
   refine CW.go ur 2 rfl (NW.then_exit (NW.go ur 6 rfl (LW.eG (bin_Err W B p u false ch) cl116 ?_)))
   refine LW.neq false rfl rfl (rfl) rfl ?_
   refine LW.go ur 18 rfl ?_
   refine NW.ret1 rfl rfl ⟨_,⟨[cr bm22 21 (xs.map i32v)],u,OwnS.row (by simp),by rw [hin,List.drop_length] at hu;exact hu,rfl,fun h=>by cases h⟩,?_⟩
   rw [hin,List.take_length,Nat.sub_self,List.replicate_zero,List.append_nil];exact .s2
end
open Go.RowKit
section
variable {P:Program}{n:Nat}{c:Ctx}{e:Env}{h h':Heap}
theorem ret_ofS {fn:Func}{R:Value->List Row->Prop}{x:Exit}(hx:x=.ret\/x=.normal){v:Value}(hr:∀ a w,Fr n e a->St c h w->(results fn a.tmps).run P w=.ok v w)
  (hR:∃ post,R v post/\Sub post h.flatten):NW n c x (bodyPost P fn (Ret c R)) e h:=fun a w hf hst=>by
 obtain⟨post,hR,hs⟩:=hR
 rcases hx with rfl | rfl<;>exact⟨hf.defers,v,hr a w hf hst,v,post,rfl,hR,hst.ext.sub hs⟩
inductive ResV (P:Program) (n:Nat) (c:Ctx) (e:Env) (h:Heap):ResultVar->Value->Prop where
 | tmp {t:Nat} {v:Value} (hv:e.get t=some v):ResV P n c e h (.tmp t) v
 | cell {a t:Nat} {b o:Nat} {u:TypeId} {l:List Value} {td:TypeDesc} {h':Heap} (cs:List Value) (hx:e.get a=some (.pointer (some ⟨b,o,none⟩))) (tk:Take [cr b u l] h h')
  (hv:∀ j v,cs[j]?=some v->l[o+j]?=some v) (hu:P.underlying t=some td) (hg:(match td with | .struct _ | .array _ _=>true | _=>false)=true) (hz:(P.info? t).map (·.size)=some cs.length):ResV P n c e h (.cell a t) (.agg cs.toArray)
def resOne (tmps:Array Value):ResultVar->Sem Value
 | .tmp t=>pure (tmps.getD t undef)
 | .cell a t=>do loadVar t (<- asAddr (tmps.getD a undef))
theorem results_one (fn:Func)(tmps:Array Value):results fn tmps=(do
 let vs <- fn.results.mapM (resOne tmps)
 pure (if h:vs.size=1 then vs[0] else .tuple vs)):=rfl
theorem ResV.run {r:ResultVar}{v:Value}(k:ResV P n c e h r v){a:Act}{w:World}(hf:Fr n e a)(s:St c h w):(resOne a.tmps r).run P w=.ok v w:=by
 cases k with
 | tmp hv=>have:=hf.get _ _ hv;simp only [resOne,this,Sem.run_pure]
 | cell cs hx tk hv hu hg hz=>
  have h1:=hf.get _ _ hx
  have h2:=run_loadAt_agg (P:=P) hu hg hz (fun j v hj=>s.cell tk (hv j v hj))
  simp only [Instr.loadAt,Instr.sureAddr,Sem.run_bind] at h2
  simp only [resOne,h1,asAddr,Sem.run_bind,Sem.run_pure,Result.andThen_ok] at h2 |-
  simpa using h2
theorem NW.res1 {fn:Func}{R:Value->List Row->Prop}{r:ResultVar}{v:Value}(hr:fn.results=#[r])(hv:ResV P n c e h r v)(hR:∃ post,R v post/\Sub post h.flatten) :
 NW n c .ret (bodyPost P fn (Ret c R)) e h:=ret_ofS (.inl rfl) (fun a w hf s=>by
  have h1:=hv.run hf s
  simp only [results_one,hr]
  simp [h1]) hR
theorem NW.res2 {fn:Func}{R:Value->List Row->Prop}{r1 r2:ResultVar}{v1 v2:Value}(hr:fn.results=#[r1,r2])(hv1:ResV P n c e h r1 v1)(hv2:ResV P n c e h r2 v2)(hR:∃ post,R (.tuple #[v1,v2]) post/\Sub post h.flatten) :
 NW n c .ret (bodyPost P fn (Ret c R)) e h:=ret_ofS (.inl rfl) (fun a w hf s=>by
  have h1:=hv1.run hf s
  have h2:=hv2.run hf s
  simp only [results_one,hr]
  simp [h1,h2]) hR
theorem NW.res3 {fn:Func}{R:Value->List Row->Prop}{r1 r2 r3:ResultVar}{v1 v2 v3:Value}(hr:fn.results=#[r1,r2,r3])(hv1:ResV P n c e h r1 v1)(hv2:ResV P n c e h r2 v2)(hv3:ResV P n c e h r3 v3)(hR:∃ post,R (.tuple #[v1,v2,v3]) post/\Sub post h.flatten) :
 NW n c .ret (bodyPost P fn (Ret c R)) e h:=ret_ofS (.inl rfl) (fun a w hf s=>by
  have h1:=hv1.run hf s
  have h2:=hv2.run hf s
  have h3:=hv3.run hf s
  simp only [results_one,hr]
  simp [h1,h2,h3]) hR
variable {ops:Array Oper}{rest:List Oper}{d ty:Nat}{pos:String}{af:Array Edge}{Q:Exit->Act->World->Prop}
theorem LW.fieldV {t i:Nat}{x:Operand}{cs:Array Value}{v:Value}(hx:e.ev x=some (.agg cs))(hf':∀ w,(Instr.field t (.agg cs) i).run P w=.ok v w)(hd:Nat.blt d n=true)(k:LW P n c ops Q rest ((d,v)::e) h) :
 LW P n c ops Q (⟨some d,.field t x i,ty,pos,af,none⟩::rest) e h:=LW.val v hd (fun a w hf _=>by simp [execOp,hf.eval hx,hf' w]) k
theorem Yl.fieldV {S:World->Prop}{t i:Nat}{x:Operand}{cs:Array Value}{v:Value}(hx:e.ev x=some (.agg cs))(hf':∀ w,(Instr.field t (.agg cs) i).run P w=.ok v w) :
 Yl P n S e ⟨some d,.field t x i,ty,pos,af,none⟩ v:=fun a w hf _=>by simp [execOp,hf.eval hx,hf' w]
theorem Yl.max2 {S:World->Prop}{x y:Operand}{ats:Array TypeId}{k k':IntKind}{p q:Int}(r:Int)(hx:e.ev x=some (.int k p))(hy:e.ev y=some (.int k' q))(hr:(if q>p then q else p)=r) :
  Yl P n S e ⟨some d,.call { callee:=.builtin .max,args:=#[x,y],argTypes:=ats },ty,pos,af,none⟩ (.int k r):=fun a w hf _=>by
 subst hr
 simp only [execOp,resolve,invoke,builtin,List.map_toArray,List.map_cons,List.map_nil,hf.eval hx,hf.eval hy,Sem.run_bind,Sem.run_pure,Result.andThen_ok,run_max_int2]
end
open Go.RowKit
def VecsAt (W:World)(B:Nat)(rows:List Row)(v:Value)(vs:List (Value×List Int)):Prop:=
 SlAt W B rows v vs.length (vs.map (·.1)) 1/\∀ x∈vs,VecAt W B rows x.1 x.2
theorem VecAt.one {W:World}{B:Nat}{rows:List Row}{v:Value}{xs:List Int}(h:VecAt W B rows v xs):v.oneCell'=true:=SlAt.one h
theorem VecsAt.ones {W:World}{B:Nat}{rows:List Row}{v:Value}{vs:List (Value×List Int)}(h:VecsAt W B rows v vs):∀ u∈vs.map (·.1),u.oneCell'=true:=by
 intro u hu
 obtain⟨x,hx,rfl⟩:=List.mem_map.1 hu
 exact (h.2 x hx).one
theorem idxF_none {α:Type}(p:α->Bool):∀ (l:List α) (i:Nat),(∀ x∈l,p x=false)->idxF p l i=-1
 | [],_,_=>rfl
 | x::r,i,h=>by
  have h1:idxF p (x::r) i=idxF p r (i+1):=by simp [idxF,h x List.mem_cons_self]
  rw [h1,idxF_none p r _ fun y hy=>h y (List.mem_cons_of_mem _ hy)]
theorem two_one {a b:Value}(ha:a.oneCell'=true)(hb:b.oneCell'=true):∀ u∈[a,b],u.oneCell'=true:=by
 intro u hu
 simp only [List.mem_cons,List.not_mem_nil,or_false] at hu
 rcases hu with rfl | rfl<;>assumption
def loF (i:Nat):List (List Int)->Int
 | []=>0
 | v::r=>r.foldl (fun m u=>min m (u.getD i 0)) (v.getD i 0)
def hiF (i:Nat):List (List Int)->Int
 | []=>0
 | v::r=>r.foldl (fun m u=>max m (u.getD i 0)) (v.getD i 0)
theorem loF_snoc (i:Nat)(l:List (List Int))(u:List Int):loF i (l++[u])=if l=[] then u.getD i 0 else min (loF i l) (u.getD i 0):=by
 cases l with
 | nil=>rfl
 | cons v r=>simp [loF,List.foldl_append]
theorem hiF_snoc (i:Nat)(l:List (List Int))(u:List Int):hiF i (l++[u])=if l=[] then u.getD i 0 else max (hiF i l) (u.getD i 0):=by
 cases l with
 | nil=>rfl
 | cons v r=>simp [hiF,List.foldl_append]
def stepF (lo hi:Int):Int:=max ((hi-lo+254)/255) 1
def lows (dim:Nat)(vs:List (List Int)):List Int:=(List.range dim).map fun i=>loF i vs
def steps (dim:Nat)(vs:List (List Int)):List Int:=(List.range dim).map fun i=>stepF (loF i vs) (hiF i vs)
theorem getD_in {xs:List Int}(h:∀ x∈xs,InB x)(i:Nat):InB (xs.getD i 0):=by
 rw [List.getD_eq_getElem?_getD]
 cases hx:xs[i]? with
 | none=>simp [InB]
 | some x=>exact h x (List.mem_of_getElem? hx)
theorem lohi_aux (i:Nat):∀ (r:List (List Int)) (m M:Int),InB m->InB M->m<=M->(∀ v∈r,∀ x∈v,InB x) ->
  InB (r.foldl (fun m u=>min m (u.getD i 0)) m)/\InB (r.foldl (fun m u=>max m (u.getD i 0)) M)/\r.foldl (fun m u=>min m (u.getD i 0)) m<=r.foldl (fun m u=>max m (u.getD i 0)) M
 | [],m,M,h1,h2,h3,_=>⟨h1,h2,h3⟩
 | v::r,m,M,h1,h2,h3,h=>by
  have hg:=getD_in (h v List.mem_cons_self) i
  rw [List.foldl_cons,List.foldl_cons]
  unfold InB at h1 h2 hg
  exact lohi_aux i r _ _ (by unfold InB;omega) (by unfold InB;omega) (by omega) fun u hu=>h u (List.mem_cons_of_mem _ hu)
theorem lohi_in (i:Nat):∀ l:List (List Int),(∀ v∈l,∀ x∈v,InB x)->InB (loF i l)/\InB (hiF i l)/\loF i l<=hiF i l
 | [],_=>by simp [loF,hiF,InB]
 | v::r,h=>by
  have hg:=getD_in (h v List.mem_cons_self) i
  exact lohi_aux i r _ _ hg hg (Int.le_refl _) fun u hu=>h u (List.mem_cons_of_mem _ hu)
theorem mayV_of {xs:List Int}{dim:Nat}(h:mayV xs (dim:Int)=true):xs.length=dim/\∀ x∈xs,InB x:=by
 unfold mayV at h
 split at h
 . cases h
 . rename_i hn
   refine⟨by omega,fun x hx=>?_⟩
   have:=List.all_eq_true.1 h x hx
   simp [coordOk] at this
   exact this
section
variable (W:World)(B:Nat)
theorem del_none {α:Type}(rows:List Row)(v:Value)(xs:List α)(enc:α->Value)(p:α->Bool)(f:Nat)(us:List Value)(hc:Callee prog f)(hs:SlAt W B rows v xs.length (xs.map enc) 1)(hm:xs.length<=1000000)
  (hp:∀ x∈xs,p x=false) (hf:∀ x∈xs,Spec prog W B f ([enc x]++us) rows (fun r post=>r=.bool (p x)/\post=rows)) :
  Spec prog W B 285 [v,.func (.func f) #[] us.toArray] rows (fun r post=>r=v/\post=rows):=by
 have hi:idxF p xs 0=-1:=idxF_none p xs 0 hp
 refine Spec.eG [rows] func285 ntmps285 fun w0=>?_
 refine CW.go ur 9 rfl (LW.eG (ixf_334 W B rows v xs enc p f us hc hs hm hf) cl334 ?_)
 rw [hi]
 refine LW.go ur 7 rfl (LW.eqlT ?_)
 refine LW.go ur 11 rfl ?_
 refine NW.r1 ⟨_,⟨rfl,rfl⟩,?_⟩
 exact Sub.one .t
theorem quant_May1 (rows:List Row)(b dim:Nat)(v:Value)(xs:List Int)(hv:VecAt W B rows v xs)(hm:xs.length<=1000000) :
  Spec prog W B 287 [v,ptr b] (rows++[cr b 3 [iN dim]]) (fun r post=>r=.bool (!mayV xs (dim:Int))/\post=rows++[cr b 3 [iN dim]]):=by
 refine Spec.eG [rows,[cr b 3 [iN dim]]] func287 ntmps287 fun w0=>?_
 refine CW.go ur 8 rfl (LW.ld one3 ?_)
 refine LW.eG (vect_May W B rows v xs (dim:Int) hv hm) cl74 ?_
 refine LW.not (!mayV xs (dim:Int)) rfl (rfl) rfl ?_
 refine LW.go ur 4 rfl ?_
 refine NW.r1 ⟨_,⟨rfl,rfl⟩,?_⟩
 exact .s2
theorem quant_Make (dim m:Nat)(rows:List Row)(v:Value)(vs:List (Value×List Int))(hv:VecsAt W B rows v vs)(hm:vs.length<=1000)(hd1:1<=dim)(hd8:dim<=8)(hmay:∀ x∈vs,mayV x.2 (dim:Int)=true) :
  Spec prog W B 232 [iN dim,v] rows (fun r post=>∃ b1 b2,r=.agg #[.slice (sA b1) dim dim,.slice (sA b2) dim dim] /\
    post=[cr b1 21 ((lows dim (vs.map (·.2))).map i32v)]++([cr b2 21 ((steps dim (vs.map (·.2))).map i32v)]++rows)):=by
 obtain⟨hs,hvv⟩:=hv
 have hones:=VecsAt.ones ⟨hs,hvv⟩
 have hz:∀ m,(madeCells (Value.int .i32 0).cells (m*1)).toList=List.replicate m (.int .i32 0):=fun m=>by
  rw [Nat.mul_one]
  exact madeCells_rep _ _ _ (by intro x hx;simp [Value.cells] at hx;exact hx) (by simp [Value.cells])
 have hin:∀ x∈vs.map (·.2),∀ y∈x,InB y:=by
  intro x hx
  obtain⟨q,hq,rfl⟩:=List.mem_map.1 hx
  exact (mayV_of (hmay q hq)).2
 have hll:(lows dim (vs.map (·.2))).length=dim:=by simp [lows]
 have hls:(steps dim (vs.map (·.2))).length=dim:=by simp [steps]
 refine Spec.eG [rows] func232 ntmps232 fun w0=>?_
 refine CW.go ur 2 rfl (LW.bx ?_)
 intro bb2
 refine LW.alloc zero256 rfl ?_
 intro ba4
 refine LW.go ur 5 rfl (LW.ld one3 ?_)
 refine LW.lssF ?_
 refine LW.go ur 2 rfl (LW.ld one3 ?_)
 refine LW.go ur 1 rfl (LW.gtrF ?_)
 refine LW.go ur 9 rfl (LW.cG (cl_286 W B rows v vs.length (vs.map (·.1)) hs hones (by omega)) cl286 ?_)
 rintro v1 _ ⟨chv,hov,rfl⟩;refine LW.splitA ?_
 obtain⟨A1,cp1,hv1,hA1,hc1⟩:=hov.val
 subst hv1
 have hsrc1:=hov.src (W:=W) (B:=B)
 refine LW.makeFn (vs:=[]) (us:=[ptr bb2]) trivial ⟨rfl,trivial⟩ rfl ?_
 refine LW.eT (del_none W B ((chv++rows)++[cr bb2 3 [iN dim]]) (.slice A1 vs.length cp1) vs (fun x=>x.1) (fun x=>!mayV x.2 (dim:Int)) 287 [ptr bb2] cl287 (hov.sl.more fun x hx=>List.mem_append_left _ (List.mem_append_left _ hx)) (by omega) (fun x hx=>by rw [hmay x hx];rfl) (fun x hx=>quant_May1 W B (chv++rows) bb2 dim x.1 x.2 ((hvv x hx).more fun y hy=>List.mem_append_right _ hy) (by have:=(mayV_of (hmay x hx)).1;omega))) cl285 (Take.both .n2 .t) ?_
 refine LW.splitA (LW.splitA ?_)
 refine LW.go ur 3 rfl ?_
 refine CW.cutG (fun st:Nat×Nat×Nat=>[(1,.slice A1 vs.length cp1),(2,ptr bb2),(4,ptr ba4),(5,.pointer (some ⟨st.2.2,0,none⟩))]) (fun st=>[[cr st.1 21 (List.replicate dim (.int .i32 0))],[cr st.2.1 21 (List.replicate dim (.int .i32 0))],[cr st.2.2 256 [.slice (some ⟨st.1,0,none⟩) dim dim,.slice (some ⟨st.2.1,0,none⟩) dim dim]],chv,rows,[cr bb2 3 [iN dim]],[cr ba4 256 [.slice none 0 0,.slice none 0 0]]]) (fun _=>True) ?cut5_1 ?cut5_2
 case cut5_1=>
  refine CW.drawH [cr bb2 3 [iN dim]] mixed ?_
  refine AW.ts [0,2] 5 (TW.ld one3 ?_)
  refine TW.ld one3 ?_
  refine TW.nil (AW.all [1,3,5] (by kernel_rfl) rfl ?_)
  refine AWs.cons rfl ?_ ?_
  . refine LW.make (dim) (dim) (List.replicate dim (.int .i32 0)) rfl rfl (by first | rfl | omega) (by first | rfl | omega) underlying24 info21 (by omega) (by omega) (by omega) (hz _) rfl ?_
    intro bm23
    refine LW.nil (AW.b (AW.all [3,5] (by kernel_rfl) rfl ?_))
    refine AWs.cons rfl ?_ ?_
    . refine LW.make (dim) (dim) (List.replicate dim (.int .i32 0)) rfl rfl (by first | rfl | omega) (by first | rfl | omega) underlying24 info21 (by omega) (by omega) (by omega) (hz _) rfl ?_
      intro bm25
      refine LW.nil (AW.b (AW.ts [4] 2 (TW.take rfl (Yl.build (vs:=[_,_]) (#[.slice (sA bm23) dim dim,.slice (sA bm25) dim dim]) ⟨rfl,rfl,trivial⟩ (by kernel_rfl)) rfl ?_)))
      refine TW.nil (AW.a 5 ?_)
      refine LW.alloc zero256 rfl ?_
      intro ba5
      refine LW.nil (AW.b (AW.a 6 ?_))
      refine LW.sA ([.slice (sA bm23) dim dim,.slice (sA bm25) dim dim]) szt256 (two_one rfl rfl) ?_
      refine LW.nil (AW.b (AW.d ?_))
      exact NW.mG ((bm23,bm25,ba5)) (by exact trivial)
    refine AWs.cons rfl ?_ ?_
    . refine LW.alloc zero256 rfl ?_
      intro ba5
      refine LW.nil (AW.b (AW.a 3 ?_))
      refine LW.make (dim) (dim) (List.replicate dim (.int .i32 0)) rfl rfl (by first | rfl | omega) (by first | rfl | omega) underlying24 info21 (by omega) (by omega) (by omega) (hz _) rfl ?_
      intro bm25
      refine LW.nil (AW.b (AW.ts [4] 1 (TW.take rfl (Yl.build (vs:=[_,_]) (#[.slice (sA bm23) dim dim,.slice (sA bm25) dim dim]) ⟨rfl,rfl,trivial⟩ (by kernel_rfl)) rfl ?_)))
      refine TW.nil (AW.a 6 ?_)
      refine LW.sA ([.slice (sA bm23) dim dim,.slice (sA bm25) dim dim]) szt256 (two_one rfl rfl) ?_
      refine LW.nil (AW.b (AW.d ?_))
      exact NW.mG ((bm23,bm25,ba5)) (by exact trivial)
    exact AWs.nil
  refine AWs.cons rfl ?_ ?_
  . refine LW.make (dim) (dim) (List.replicate dim (.int .i32 0)) rfl rfl (by first | rfl | omega) (by first | rfl | omega) underlying24 info21 (by omega) (by omega) (by omega) (hz _) rfl ?_
    intro bm25
    refine LW.nil (AW.b (AW.all [1,5] (by kernel_rfl) rfl ?_))
    refine AWs.cons rfl ?_ ?_
    . refine LW.make (dim) (dim) (List.replicate dim (.int .i32 0)) rfl rfl (by first | rfl | omega) (by first | rfl | omega) underlying24 info21 (by omega) (by omega) (by omega) (hz _) rfl ?_
      intro bm23
      refine LW.nil (AW.b (AW.ts [4] 2 (TW.take rfl (Yl.build (vs:=[_,_]) (#[.slice (sA bm23) dim dim,.slice (sA bm25) dim dim]) ⟨rfl,rfl,trivial⟩ (by kernel_rfl)) rfl ?_)))
      refine TW.nil (AW.a 5 ?_)
      refine LW.alloc zero256 rfl ?_
      intro ba5
      refine LW.nil (AW.b (AW.a 6 ?_))
      refine LW.sA ([.slice (sA bm23) dim dim,.slice (sA bm25) dim dim]) szt256 (two_one rfl rfl) ?_
      refine LW.nil (AW.b (AW.d ?_))
      exact NW.mG ((bm23,bm25,ba5)) (by exact trivial)
    refine AWs.cons rfl ?_ ?_
    . refine LW.alloc zero256 rfl ?_
      intro ba5
      refine LW.nil (AW.b (AW.a 1 ?_))
      refine LW.make (dim) (dim) (List.replicate dim (.int .i32 0)) rfl rfl (by first | rfl | omega) (by first | rfl | omega) underlying24 info21 (by omega) (by omega) (by omega) (hz _) rfl ?_
      intro bm23
      refine LW.nil (AW.b (AW.ts [4] 1 (TW.take rfl (Yl.build (vs:=[_,_]) (#[.slice (sA bm23) dim dim,.slice (sA bm25) dim dim]) ⟨rfl,rfl,trivial⟩ (by kernel_rfl)) rfl ?_)))
      refine TW.nil (AW.a 6 ?_)
      refine LW.sA ([.slice (sA bm23) dim dim,.slice (sA bm25) dim dim]) szt256 (two_one rfl rfl) ?_
      refine LW.nil (AW.b (AW.d ?_))
      exact NW.mG ((bm23,bm25,ba5)) (by exact trivial)
    exact AWs.nil
  refine AWs.cons rfl ?_ ?_
  . refine LW.alloc zero256 rfl ?_
    intro ba5
    refine LW.nil (AW.b (AW.all [1,3] (by kernel_rfl) rfl ?_))
    refine AWs.cons rfl ?_ ?_
    . refine LW.make (dim) (dim) (List.replicate dim (.int .i32 0)) rfl rfl (by first | rfl | omega) (by first | rfl | omega) underlying24 info21 (by omega) (by omega) (by omega) (hz _) rfl ?_
      intro bm23
      refine LW.nil (AW.b (AW.a 3 ?_))
      refine LW.make (dim) (dim) (List.replicate dim (.int .i32 0)) rfl rfl (by first | rfl | omega) (by first | rfl | omega) underlying24 info21 (by omega) (by omega) (by omega) (hz _) rfl ?_
      intro bm25
      refine LW.nil (AW.b (AW.ts [4] 1 (TW.take rfl (Yl.build (vs:=[_,_]) (#[.slice (sA bm23) dim dim,.slice (sA bm25) dim dim]) ⟨rfl,rfl,trivial⟩ (by kernel_rfl)) rfl ?_)))
      refine TW.nil (AW.a 6 ?_)
      refine LW.sA ([.slice (sA bm23) dim dim,.slice (sA bm25) dim dim]) szt256 (two_one rfl rfl) ?_
      refine LW.nil (AW.b (AW.d ?_))
      exact NW.mG ((bm23,bm25,ba5)) (by exact trivial)
    refine AWs.cons rfl ?_ ?_
    . refine LW.make (dim) (dim) (List.replicate dim (.int .i32 0)) rfl rfl (by first | rfl | omega) (by first | rfl | omega) underlying24 info21 (by omega) (by omega) (by omega) (hz _) rfl ?_
      intro bm25
      refine LW.nil (AW.b (AW.a 1 ?_))
      refine LW.make (dim) (dim) (List.replicate dim (.int .i32 0)) rfl rfl (by first | rfl | omega) (by first | rfl | omega) underlying24 info21 (by omega) (by omega) (by omega) (hz _) rfl ?_
      intro bm23
      refine LW.nil (AW.b (AW.ts [4] 1 (TW.take rfl (Yl.build (vs:=[_,_]) (#[.slice (sA bm23) dim dim,.slice (sA bm25) dim dim]) ⟨rfl,rfl,trivial⟩ (by kernel_rfl)) rfl ?_)))
      refine TW.nil (AW.a 6 ?_)
      refine LW.sA ([.slice (sA bm23) dim dim,.slice (sA bm25) dim dim]) szt256 (two_one rfl rfl) ?_
      refine LW.nil (AW.b (AW.d ?_))
      exact NW.mG ((bm23,bm25,ba5)) (by exact trivial)
    exact AWs.nil
  exact AWs.nil
 case cut5_2=>
  rintro⟨b1,b2,bk⟩ _;dsimp only
  refine CW.go ur 3 rfl (LW.ld one3 ?_)
  refine LW.go ur 4 rfl ?_
  refine CW.loopG (fun i:Nat=>[(28,iN i),(27,iN dim),(1,.slice A1 vs.length cp1),(4,ptr ba4),(5,ptr bk)]) (fun i=>[[cr b1 21 (((lows dim (vs.map (·.2))).take i).map i32v++List.replicate (dim-i) (.int .i32 0))],[cr b2 21 (((steps dim (vs.map (·.2))).take i).map i32v++List.replicate (dim-i) (.int .i32 0))],[cr bk 256 [.slice (sA b1) dim dim,.slice (sA b2) dim dim]],chv,rows,[cr ba4 256 [.slice none 0 0,.slice none 0 0]]]) (fun i=>i<=dim) (fun i=>dim-i) 0 (by exact Nat.zero_le _) rfl (by repeat' constructor) ?_
  rintro i hi
  refine CW.go ur 2 rfl (LW.lss (decide ((i:Int)<(dim:Int))) rfl rfl (rfl) rfl ?_)
  refine LW.go ur 3 rfl ?_
  refine CW.cond rfl (fun hc29=>?_) (fun hc29=>?_)
  . have hin29:i<dim:=oT hc29
    refine CW.go ur 25 rfl ?_
    refine CW.loopG (fun j:Nat=>[(33,iN j),(32,iN vs.length),(31,.slice A1 vs.length cp1),(7,.int .i32 (loF i ((vs.map (·.2)).take j))),(8,.int .i32 (hiF i ((vs.map (·.2)).take j))),(6,iN i),(28,iN i),(27,iN dim),(1,.slice A1 vs.length cp1),(4,ptr ba4),(5,ptr bk)]) (fun j=>[[cr b1 21 (((lows dim (vs.map (·.2))).take i).map i32v++List.replicate (dim-i) (.int .i32 0))],[cr b2 21 (((steps dim (vs.map (·.2))).take i).map i32v++List.replicate (dim-i) (.int .i32 0))],[cr bk 256 [.slice (sA b1) dim dim,.slice (sA b2) dim dim]],chv,rows,[cr ba4 256 [.slice none 0 0,.slice none 0 0]]]) (fun j=>j<=vs.length) (fun j=>vs.length-j) 0 (by exact Nat.zero_le _) rfl (by repeat' constructor) ?_
    rintro j hj
    refine CW.go ur 2 rfl (LW.lss (decide ((j:Int)<(vs.length:Int))) rfl rfl (rfl) rfl ?_)
    refine LW.go ur 3 rfl ?_
    refine CW.cond rfl (fun hc34=>?_) (fun hc34=>?_)
    . have hjn:j<vs.length:=oT hc34
      obtain⟨x,hxj,hxd⟩:=drop_at hjn
      obtain⟨A,cp,hxv,hcp,hl,hsrc,hA⟩:=hvv x (List.mem_of_getElem? hxj)
      have hxl:=(mayV_of (hmay x (List.mem_of_getElem? hxj))).1
      obtain⟨a,rfl⟩:∃ x,A=some x:=smA hA
      have hg1:(vs.map (·.1))[((j:Nat):Int).toNat*1]?=some (.slice (some a) x.2.length cp):=by rw [Int.toNat_natCast,Nat.mul_one,List.getElem?_map,hxj];exact congrArg some hxv
      have hg:(x.2.map i32v)[((i:Nat):Int).toNat*1]?=some (.int .i32 (x.2.getD i 0)):=by rw [Int.toNat_natCast,Nat.mul_one,List.getElem?_map,List.getD_eq_getElem?_getD,List.getElem?_eq_getElem (by omega)];rfl
      have hne:j≠0->¬ (vs.map (·.2)).take j=[]:=fun h0 h=>by have:=congrArg List.length h;rw [List.length_take,List.length_map,List.length_nil] at this;omega
      have hsn:(vs.map (·.2)).take (j+1)=(vs.map (·.2)).take j++[x.2]:=by rw [List.take_add_one,List.getElem?_map,hxj];rfl
      have hlo:j≠0->loF i ((vs.map (·.2)).take (j+1))=min (loF i ((vs.map (·.2)).take j)) (x.2.getD i 0):=fun h0=>by rw [hsn,loF_snoc,if_neg (hne h0)]
      have hhi:j≠0->hiF i ((vs.map (·.2)).take (j+1))=max (hiF i ((vs.map (·.2)).take j)) (x.2.getD i 0):=fun h0=>by rw [hsn,hiF_snoc,if_neg (hne h0)]
      have hlo0:j=0->loF i ((vs.map (·.2)).take (j+1))=x.2.getD i 0:=fun h0=>by rw [hsn,loF_snoc,if_pos (by rw [h0];rfl)]
      have hhi0:j=0->hiF i ((vs.map (·.2)).take (j+1))=x.2.getD i 0:=fun h0=>by rw [hsn,hiF_snoc,if_pos (by rw [h0];rfl)]
      refine CW.go ur 7 rfl ?_
      obtain⟨a1,hA1s⟩:∃ x,A1=some x:=smA hA1
      subst hA1s
      refine LW.indexAt rfl rfl underlying22 ixs22 (by omega) (by omega) rfl ?_
      refine LW.loadRd (v:=.slice (some a) x.2.length cp) rfl (hsrc1.rd .t) (hg1) one25 rfl ?_
      refine LW.go ur 8 rfl ?_
      by_cases hj0:j=0
      . refine LW.eqlT ?_
        refine LW.go ur 3 rfl (CW.quiet mixed (by kernel_rfl) ?_)
        refine QW.mv ?_
        refine QW.mv ?_
        refine QW.step (Yl.indexAt rfl rfl underlying25 ixs25 (by omega) (by omega)) rfl ?_
        refine QW.step (Yl.loadRd (v:=.int .i32 (x.2.getD i 0)) rfl (hsrc.rd .t) (hg) one21) rfl ?_
        refine QW.mv ?_
        refine QW.mv ?_
        refine QW.step (Yl.indexAt rfl rfl underlying25 ixs25 (by omega) (by omega)) rfl ?_
        refine QW.step (Yl.loadRd (v:=.int .i32 (x.2.getD i 0)) rfl (hsrc.rd .t) (hg) one21) rfl ?_
        refine QW.step (Yl.assign rfl) rfl ?_
        refine QW.step (Yl.assign rfl) rfl ?_
        refine QW.nil ?_
        refine NW.go ur 1 rfl (CW.quiet mixed (by kernel_rfl) ?_)
        refine QW.mv ?_
        refine QW.mv ?_
        refine QW.mv ?_
        refine QW.step (Yl.indexAt rfl rfl underlying25 ixs25 (by omega) (by omega)) rfl ?_
        refine QW.step (Yl.loadRd (v:=.int .i32 (x.2.getD i 0)) rfl (hsrc.rd .t) (hg) one21) rfl ?_
        refine QW.step (Yl.min2 (loF i ((vs.map (·.2)).take (j+1))) rfl rfl (by rw [hlo0 hj0];split<;>omega)) rfl ?_
        refine QW.mv ?_
        refine QW.mv ?_
        refine QW.mv ?_
        refine QW.step (Yl.indexAt rfl rfl underlying25 ixs25 (by omega) (by omega)) rfl ?_
        refine QW.step (Yl.loadRd (v:=.int .i32 (x.2.getD i 0)) rfl (hsrc.rd .t) (hg) one21) rfl ?_
        refine QW.step (Yl.max2 (hiF i ((vs.map (·.2)).take (j+1))) rfl rfl (by rw [hhi0 hj0];split<;>omega)) rfl ?_
        refine QW.step (Yl.assign rfl) rfl ?_
        refine QW.step (Yl.assign rfl) rfl ?_
        refine QW.nil ?_
        refine NW.go ur 3 rfl (LW.ad ((j+1:Int)) ?_)
        exact LW.go ur 2 rfl (NW.mG (j+1) (by exact⟨hjn,by omega⟩))
      . refine LW.eqlF ?_
        refine LW.go ur 5 rfl (CW.quiet mixed (by kernel_rfl) ?_)
        refine QW.mv ?_
        refine QW.mv ?_
        refine QW.mv ?_
        refine QW.step (Yl.indexAt rfl rfl underlying25 ixs25 (by omega) (by omega)) rfl ?_
        refine QW.step (Yl.loadRd (v:=.int .i32 (x.2.getD i 0)) rfl (hsrc.rd .t) (hg) one21) rfl ?_
        refine QW.step (Yl.min2 (loF i ((vs.map (·.2)).take (j+1))) rfl rfl (by rw [hlo hj0];split<;>omega)) rfl ?_
        refine QW.mv ?_
        refine QW.mv ?_
        refine QW.mv ?_
        refine QW.step (Yl.indexAt rfl rfl underlying25 ixs25 (by omega) (by omega)) rfl ?_
        refine QW.step (Yl.loadRd (v:=.int .i32 (x.2.getD i 0)) rfl (hsrc.rd .t) (hg) one21) rfl ?_
        refine QW.step (Yl.max2 (hiF i ((vs.map (·.2)).take (j+1))) rfl rfl (by rw [hhi hj0];split<;>omega)) rfl ?_
        refine QW.step (Yl.assign rfl) rfl ?_
        refine QW.step (Yl.assign rfl) rfl ?_
        refine QW.nil ?_
        refine NW.go ur 3 rfl (LW.ad ((j+1:Int)) ?_)
        exact LW.go ur 2 rfl (NW.mG (j+1) (by exact⟨hjn,by omega⟩))
    . have hjn:j=vs.length:=oF hc34
      have hta:(vs.map (·.2)).take j=vs.map (·.2):=List.take_of_length_le (by simp;omega)
      rw [hta]
      have hlh:=lohi_in i (vs.map (·.2)) hin
      unfold InB at hlh
      have hli:(lows dim (vs.map (·.2)))[i]?=some (loF i (vs.map (·.2))):=by simp [lows,hin29]
      have hsi:(steps dim (vs.map (·.2)))[i]?=some (stepF (loF i (vs.map (·.2))) (hiF i (vs.map (·.2)))):=by simp [steps,hin29]
      have hq:(hiF i (vs.map (·.2))-loF i (vs.map (·.2))+254).tdiv 255=(hiF i (vs.map (·.2))-loF i (vs.map (·.2))+254)/255:=Int.tdiv_eq_ediv_of_nonneg (by omega)
      refine CW.go ur 2 rfl (NW.then_exit (NW.go ur 2 rfl (CW.drawH [cr bk 256 [.slice (sA b1) dim dim,.slice (sA b2) dim dim]] mixed ?_)))
      refine AW.ts [0,1,2,3,4,5,6,7,8,9,10,11,12,13,14] 3 (TW.fa fa256_0 ?_)
      refine TW.ld one24 ?_
      refine TW.mv ?_
      refine TW.fa fa256_1 ?_
      refine TW.ld one24 ?_
      refine TW.mv ?_
      refine TW.mv ?_
      refine TW.mv ?_
      refine TW.mv ?_
      refine TW.take rfl (Yl.sub (hiF i (vs.map (·.2))-loF i (vs.map (·.2))) rfl rfl (by exact wr32 rfl (by omega) (by omega))) rfl ?_
      refine TW.take rfl (Yl.add (hiF i (vs.map (·.2))-loF i (vs.map (·.2))+255) rfl rfl (by exact wr32 rfl (by omega) (by omega))) rfl ?_
      refine TW.take rfl (Yl.sub (hiF i (vs.map (·.2))-loF i (vs.map (·.2))+254) rfl rfl (by exact wr32 (by omega) (by omega) (by omega))) rfl ?_
      refine TW.take rfl (Yl.quo ((hiF i (vs.map (·.2))-loF i (vs.map (·.2))+254)/255) rfl rfl (by decide) (by rw [hq];exact wr32 rfl (by omega) (by omega))) rfl ?_
      refine TW.take rfl (Yl.max2 (stepF (loF i (vs.map (·.2))) (hiF i (vs.map (·.2)))) rfl rfl (by unfold stepF;split<;>omega)) rfl ?_
      refine TW.take rfl (Yl.indexAddr (i) rfl rfl underlying24 ixs24 (by omega) (by omega) (by simp)) rfl ?_
      refine TW.nil (AW.a 15 ?_)
      refine LW.store rfl rfl .t (by simp [hll];omega) sz21 (rfl) ?_
      refine LW.nil (AW.b (AW.ts [16] 1 (TW.take rfl (Yl.indexAddr (i) rfl rfl underlying24 ixs24 (by omega) (by omega) (by simp)) rfl ?_)))
      refine TW.nil (AW.a 17 ?_)
      refine LW.store rfl rfl .t (by simp [hls];omega) sz21 (rfl) ?_
      refine LW.nil (AW.b (AW.d ?_))
      refine NW.go ur 2 rfl ?_
      rw [show (((lows dim (vs.map (·.2))).take i).map i32v++List.replicate (dim-i) (Value.int .i32 0)).set i (.int .i32 (loF i (vs.map (·.2))))=((lows dim (vs.map (·.2))).take (i+1)).map i32v++List.replicate (dim-(i+1)) (.int .i32 0) from set_fill i32v _ hli hll.symm]
      rw [show (((steps dim (vs.map (·.2))).take i).map i32v++List.replicate (dim-i) (Value.int .i32 0)).set i (.int .i32 (stepF (loF i (vs.map (·.2))) (hiF i (vs.map (·.2)))))=((steps dim (vs.map (·.2))).take (i+1)).map i32v++List.replicate (dim-(i+1)) (.int .i32 0) from set_fill i32v _ hsi hls.symm]
      refine CW.go ur 1 rfl (LW.ad ((i+1:Int)) ?_)
      exact LW.go ur 2 rfl (NW.mG (i+1) (by exact⟨hin29,by omega⟩))
  . have hin29:i=dim:=oF hc29
    refine CW.go ur 2 rfl (NW.then_exit (NW.go ur 4 rfl (LW.lA ([.slice (sA b1) dim dim,.slice (sA b2) dim dim]) underlying256 szt256 ?_)))
    refine LW.sA ([.slice (sA b1) dim dim,.slice (sA b2) dim dim]) szt256 (two_one rfl rfl) ?_
    refine LW.go ur 3 rfl ?_
    refine NW.res1 rfl (.cell ([.slice (sA b1) dim dim,.slice (sA b2) dim dim]) rfl .t zd underlying256 rfl szt256) ⟨_,⟨b1,b2,rfl,rfl⟩,?_⟩
    rw [hin29,List.take_of_length_le (by omega),List.take_of_length_le (by omega),Nat.sub_self,List.replicate_zero,List.append_nil,List.append_nil];exact .s3
end
end Go.Proofs.YtnlpccoigflheaaGreatDoor
