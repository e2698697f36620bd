/- TMid -/
import Derived.Test.YtnlpccoigflheaaGreatDoorTMeans
import Derived.Test.YtnlpccoigflheaaGreatDoorFac
namespace Go.Proofs.YtnlpccoigflheaaGreatDoor
open Go.RowKit
open Go.Proofs.Tryz
def Tuu:Tbl:=⟨[],[],[22]⟩
theorem uu:Tuu.Ok Tryz.prog:=.of (⟨⟨_,Tryz.underlying22⟩,trivial⟩)
theorem flat_get:∀ {chs:List (List Row)} {i:Nat} {ch:List Row},chs[i]?=some ch->(ch++(chs.eraseIdx i).flatten).Perm chs.flatten
 | [],_,_,h=>by cases h
 | c::r,0,ch,h=>by simp at h;subst h;simp
 | c::r,i+1,ch,h=>by
  simp only [List.getElem?_cons_succ] at h
  have ih:=flat_get h
  simp only [List.eraseIdx_cons_succ,List.flatten_cons]
  rw [<- List.append_assoc]
  refine (List.perm_append_comm.append_right _).trans ?_
  rw [List.append_assoc]
  exact ih.append_left c
theorem flat_set {chs:List (List Row)}{i:Nat}{ch:List Row}(h:i<chs.length):(ch++(chs.eraseIdx i).flatten).Perm (chs.set i ch).flatten:=by
 have h1:(chs.set i ch)[i]?=some ch:=by simp [h]
 have h2:=flat_get h1
 rwa [show (chs.set i ch).eraseIdx i=chs.eraseIdx i by simp [List.eraseIdx_set_eq]] at h2
section
variable {P:Program}{n:Nat}{c:Ctx}{Q:Exit->Act->World->Prop}{e:Env}{h h':Heap}{ops:Array Oper}{rest:List Oper}
theorem LW.front {p:List Row}(tk:Take p h h')(k:LW P n c ops Q rest e (p::h')):LW P n c ops Q rest e h:=k.heap (Sub.of_perm (by rw [List.flatten_cons];exact tk))
theorem CW.front {x:Code}{p:List Row}(tk:Take p h h')(k:CW P n c x Q e (p::h')):CW P n c x Q e h:=k.heap (Sub.of_perm (by rw [List.flatten_cons];exact tk))
theorem LW.foc {a ch r:List Row}(hp:(ch++r).Perm a)(k:LW P n c ops Q rest e (ch::r::h)):LW P n c ops Q rest e (a::h):=k.heap (Sub.of_perm (by simp only [List.flatten_cons];rw [<- List.append_assoc];exact hp.append_right _))
theorem CW.foc {x:Code}{a ch r:List Row}(hp:(ch++r).Perm a)(k:CW P n c x Q e (ch::r::h)):CW P n c x Q e (a::h):=k.heap (Sub.of_perm (by simp only [List.flatten_cons];rw [<- List.append_assoc];exact hp.append_right _))
theorem LW.unfoc {a ch r:List Row}(hp:(ch++r).Perm a)(k:LW P n c ops Q rest e (a::h)):LW P n c ops Q rest e (ch::r::h):=k.heap (Sub.of_perm (by simp only [List.flatten_cons];rw [<- List.append_assoc];exact (hp.append_right _).symm))
theorem CW.unfoc {x:Code}{a ch r:List Row}(hp:(ch++r).Perm a)(k:CW P n c x Q e (a::h)):CW P n c x Q e (ch::r::h):=k.heap (Sub.of_perm (by simp only [List.flatten_cons];rw [<- List.append_assoc];exact (hp.append_right _).symm))
theorem LW.splitC {x y a b:List Row}(k:LW P n c ops Q rest e (x::y::a::b::h)):LW P n c ops Q rest e (x::y::(a++b)::h):=k.heap (Sub.of_perm (by simp))
theorem LW.splitD {x y z a b:List Row}(k:LW P n c ops Q rest e (x::y::z::a::b::h)):LW P n c ops Q rest e (x::y::z::(a++b)::h):=k.heap (Sub.of_perm (by simp))
theorem CW.addNil {x:Code}{a:List Row}(ha:a=[])(k:CW P n c x Q e (a::h)):CW P n c x Q e h:=k.heap (Sub.of_perm (by subst ha;simp))
theorem LW.addNil {a:List Row}(ha:a=[])(k:LW P n c ops Q rest e (a::h)):LW P n c ops Q rest e h:=k.heap (Sub.of_perm (by subst ha;simp))
theorem CW.splitA {x:Code}{a b:List Row}(k:CW P n c x Q e (a::b::h)):CW P n c x Q e ((a++b)::h):=k.heap (Sub.of_perm (by simp))
theorem CW.splitB {x:Code}{y a b:List Row}(k:CW P n c x Q e (y::a::b::h)):CW P n c x Q e (y::(a++b)::h):=k.heap (Sub.of_perm (by simp))
end
theorem midsStep_len (ms vs:List (List Int)):(midsStep ms vs).length=ms.length:=by simp [midsStep]
theorem midsStep_ok {ms vs:List (List Int)}(h:VecsIn ms)(hv:VecsIn vs):VecsIn (midsStep ms vs):=by
 intro x hx
 obtain⟨i,hi,rfl⟩:=List.mem_mapIdx.1 hx
 exact midP_ok (h _ (List.getElem_mem hi)) fun v hv'=>hv v (List.mem_filter.1 hv').1
def grp (ms:List (List Int))(vs:List (Value×List Int))(j i:Nat):List (Value×List Int):=(vs.take j).filter fun x=>nearP ms x.2==(i:Int)
theorem grp_snoc {ms:List (List Int)}{vs:List (Value×List Int)}{j i:Nat}{x:Value×List Int}(h:vs[j]?=some x):grp ms vs (j+1) i=grp ms vs j i++(if nearP ms x.2=(i:Int) then [x] else []):=by
 unfold grp
 rw [List.take_add_one,h,List.filter_append]
 congr 1
 simp only [Option.toList_some,List.filter_cons,List.filter_nil,beq_iff_eq]
theorem grp_all (ms:List (List Int))(vs:List (Value×List Int))(i:Nat):(grp ms vs vs.length i).map (·.2)=(vs.map (·.2)).filter fun v=>nearP ms v==(i:Int):=by
 unfold grp
 rw [List.take_length,List.filter_map]
 rfl
theorem grp_sub {ms:List (List Int)}{vs:List (Value×List Int)}{j i:Nat}{x:Value×List Int}(h:x∈grp ms vs j i):x∈vs:=List.mem_of_mem_take (List.mem_filter.1 h).1
theorem grp_len (ms:List (List Int))(vs:List (Value×List Int))(j i:Nat):(grp ms vs j i).length<=vs.length:=Nat.le_trans (List.length_filter_le _ _) (by rw [List.length_take];omega)
section
variable (W:World)(B:Nat)
theorem means_Mid1 (rows:List Row)(b:Nat)(v u:Value)(xs ys:List Int)(hv:VecAt W B rows v xs)(hu:VecAt W B rows u ys)(hm:xs.length<=1000000) :
  Spec prog W B 282 [v,ptr b] (rows++[cr b 25 [u]]) (fun r post=>r=.bool (decide (xs=ys))/\post=rows++[cr b 25 [u]]):=by
 refine Spec.eG [rows,[cr b 25 [u]]] func282 ntmps282 fun w0=>?_
 refine CW.go uu 8 rfl (LW.ld one25 ?_)
 refine LW.eG (vect_Eq W B rows v u xs ys hv hu hm) cl70 ?_
 refine LW.go uu 4 rfl ?_
 refine NW.r1 ⟨_,⟨rfl,rfl⟩,?_⟩
 exact .s2
def MidsR (N:Nat)(rows:List Row)(v:Value)(ms:List (Value×List Int))(ch bag:List Row):Prop:=ms.length=N/\OwnS 25 1 v N (ms.map (·.1)) ch/\∀ x∈ms,VecAt W B (bag++rows) x.1 x.2
variable {W B}
theorem MidsR.vecs {N:Nat}{rows:List Row}{v:Value}{ms:List (Value×List Int)}{ch bag:List Row}(h:MidsR W B N rows v ms ch bag):VecsAt W B (ch++(bag++rows)) v ms:=by
 obtain⟨h1,h2,h3⟩:=h
 subst h1
 exact⟨h2.sl.more fun x hx=>List.mem_append_left _ hx,fun x hx=>(h3 x hx).right⟩
theorem near_cases (ms:List (List Int))(q:List Int):(ms.length=0/\nearP ms q=-1)\/(0<=nearP ms q/\nearP ms q<(ms.length:Int)):=by
 by_cases h:ms=[]
 . subst h;exact .inl ⟨rfl,rfl⟩
 . exact .inr (nearP_in ms q h)
def GrpR (ms:List (List Int))(vs:List (Value×List Int))(j N:Nat)(ovs:List Value)(chs:List (List Row)):Prop:=
 ovs.length=N/\chs.length=N/\∀ i,i<N->∃ ov ch,ovs[i]?=some ov/\chs[i]?=some ch/\OwnS 25 1 ov (grp ms vs j i).length ((grp ms vs j i).map (·.1)) ch
theorem GrpR.zero (ms:List (List Int))(vs:List (Value×List Int))(N:Nat):GrpR ms vs 0 N (List.replicate N (.slice none 0 0)) (List.replicate N []):=
 ⟨by simp,by simp,fun i hi=>⟨.slice none 0 0,[],by simp [hi],by simp [hi],by simp [grp];exact OwnS.nil⟩⟩
theorem GrpR.step {ms:List (List Int)}{vs:List (Value×List Int)}{j N i0:Nat}{ovs:List Value}{chs:List (List Row)}{x:Value×List Int}{v:Value}{ch:List Row}(h:GrpR ms vs j N ovs chs)(hx:vs[j]?=some x)(hn:nearP ms x.2=(i0:Int))(hi:i0<N)
   (ho:OwnS 25 1 v ((grp ms vs j i0).length+1) ((grp ms vs j i0).map (·.1)++[x.1]) ch):GrpR ms vs (j+1) N (ovs.set i0 v) (chs.set i0 ch):=by
 obtain⟨h1,h2,h3⟩:=h
 refine⟨by simp [h1],by simp [h2],fun i hin=>?_⟩
 by_cases he:i0=i
 . subst he
   refine⟨v,ch,by simp [h1,hin],by simp [h2,hin],?_⟩
   rw [grp_snoc hx,if_pos hn]
   simpa using ho
 . obtain⟨ov,c,a1,a2,a3⟩:=h3 i hin
   refine⟨ov,c,by rw [List.getElem?_set_ne he];exact a1,by rw [List.getElem?_set_ne he];exact a2,?_⟩
   rw [grp_snoc hx,if_neg (by rw [hn];omega)]
   simpa using a3
theorem GrpR.none {ms:List (List Int)}{vs:List (Value×List Int)}{j:Nat}{ovs:List Value}{chs:List (List Row)}(h:GrpR ms vs j 0 ovs chs):GrpR ms vs (j+1) 0 ovs chs:=⟨h.1,h.2.1,fun i hi=>absurd hi (Nat.not_lt_zero _)⟩
theorem mids_step {st ms:List (List Int)}{i:Nat}{z:List Int}(hl:(st.take i).length=i)(hz:st[i]?=some z)(hi:i<ms.length):(st.take i++ms.drop i).set i z=st.take (i+1)++ms.drop (i+1):=by
 rw [List.set_append_right _ _ (by omega),hl,Nat.sub_self,List.drop_eq_getElem_cons hi,List.set_cons_zero,List.take_add_one,hz]
 simp
theorem mids_set {N:Nat}{rows:List Row}{b7 cap7:Nat}{slack7:List Value}{m3:List (Value×List Int)}{chm g3:List Row}{i:Nat}{y:Value×List Int}{r:Value}{z:List Int}(h3l:m3.length=N)(h3v:∀ x∈m3,VecAt W B (g3++rows) x.1 x.2)(hin:i<N)
   (hxl:(m3.map (·.1)).length=N*1) (hc:N<=cap7) (hs:slack7.length=(cap7-N)*1) (hr:(r=y.1/\z=y.2)\/VecAt W B chm r z) (hy:m3[i]?=some y) :
   MidsR W B N rows (.slice (sA b7) N cap7) (m3.set i (r,z)) [cr b7 25 ((m3.map (·.1)++slack7).set i r)] (chm++g3):=by
 refine⟨by simp [h3l],.inr ⟨b7,cap7,slack7,rfl,by simp [h3l],hc,hs,by rw [List.map_set,List.set_append_left _ _ (by simp;omega)]⟩,fun x hx=>?_⟩
 rcases List.mem_or_eq_of_mem_set hx with hx | rfl
 . rw [List.append_assoc];exact (h3v x hx).right
 . rcases hr with ⟨rfl,rfl⟩ | hr
   . rw [List.append_assoc];exact (h3v _ (List.mem_of_getElem? hy)).right
   . exact hr.left.left
variable (W B)
set_option maxHeartbeats 2000000 in
theorem means_Middles (n times:Nat)(rows:List Row)(v:Value)(vs:List (Value×List Int))(h1:1<=n)(h16:n<=16)(ht:times<=10)(hv:VecsAt W B rows v vs)(hm:vs.length<=1000)(hok:VecsIn (vs.map (·.2))) :
   Spec prog W B 230 [iN n,iN times,v] rows (fun r post=>∃ N ms ch bag,MidsR W B N rows r ms ch bag/\ms.map (·.2)=midsP n times (vs.map (·.2))/\VecsIn (ms.map (·.2))/\N<=n/\post=ch++(bag++rows)):=by
 obtain⟨⟨A,cp,rfl,hcp,hl,hsrc,hA⟩,hvv⟩:=hv
 have hz:∀ k,(madeCells (Value.slice none 0 0).cells (k*1)).toList=List.replicate k (.slice none 0 0):=fun k=>by
   rw [Nat.mul_one]
   exact madeCells_rep _ _ _ (by intro x hx;simp [Value.cells] at hx;exact hx) (by simp [Value.cells])
 refine Spec.eG [rows] func230 ntmps230 fun w0=>?_
 refine CW.go uu 8 rfl (LW.max2 (n:Int) rfl rfl (by split<;>omega) rfl ?_)
 refine LW.min2 ((n:Int)) rfl rfl (by split<;>omega) rfl ?_
 refine LW.go uu 1 rfl (LW.max2 (times:Int) rfl rfl (by split<;>omega) rfl ?_)
 refine LW.min2 ((times:Int)) rfl rfl (by split<;>omega) rfl ?_
 refine LW.go uu 18 rfl ?_
 refine CW.loopG (fun st:Nat×Value×List (Value×List Int)×List Row×List Row=>[(23,iN st.1),(22,iN vs.length),(21,.slice A vs.length cp),(7,st.2.1),(0,iN n),(1,iN times),(2,.slice A vs.length cp)]) (fun st=>[st.2.2.2.1,st.2.2.2.2,rows]) (fun st=>st.1<=vs.length/\MidsR W B st.2.2.1.length rows st.2.1 st.2.2.1 st.2.2.2.1 st.2.2.2.2/\st.2.2.1.map (·.2)=((vs.map (·.2)).take st.1).foldl (putM n) []/\VecsIn (st.2.2.1.map (·.2))/\st.2.2.1.length<=n) (fun st=>vs.length-st.1) (0,.slice none 0 0,[],[],[]) (by exact⟨Nat.zero_le _,⟨rfl,OwnS.nil,fun x hx=>(by cases hx)⟩,rfl,fun x hx=>(by cases hx),Nat.zero_le _⟩) rfl (by repeat' constructor) ?_
 rintro⟨j,u,ms,ch,bag⟩ ⟨hj,hmr,hms,hmo,hmn⟩;dsimp only at hj hmr hms hmo hmn |-;obtain⟨A7,cp7,rfl,hA7,hc7⟩:=hmr.2.1.val
 refine CW.go uu 2 rfl (LW.lss (decide ((j:Int)<(vs.length:Int))) rfl rfl (rfl) rfl ?_)
 refine LW.go uu 3 rfl ?_
 refine CW.cond rfl (fun hc24=>?_) (fun hc24=>?_)
 . have hjn:j<vs.length:=oT hc24
   obtain⟨x,hxj,hxd⟩:=drop_at hjn
   obtain⟨a1,rfl⟩:∃ x,A=some x:=smA hA
   have hxm:=List.mem_of_getElem? hxj
   have hxo:=hok x.2 (List.mem_map.2 ⟨x,hxm,rfl⟩)
   have hxv:=hvv x hxm
   have hx1:=hxv.one
   have hg:(vs.map (·.1))[((j:Nat):Int).toNat*1]?=some x.1:=by rw [Int.toNat_natCast,Nat.mul_one,List.getElem?_map,hxj];rfl
   have hpm:((vs.map (·.2)).take (j+1)).foldl (putM n) []=putM n (ms.map (·.2)) x.2:=by rw [List.take_add_one,List.getElem?_map,hxj,hms];simp [List.foldl_append]
   refine CW.go uu 6 rfl (LW.indexAt rfl rfl underlying22 ixs22 (by omega) (by omega) rfl ?_)
   refine LW.loadRd (v:=x.1) rfl (hsrc.rd .t) (hg) one25 rfl ?_
   refine LW.alloc zero25 rfl ?_
   intro ba9
   refine LW.store rfl rfl .t (by first | decide | exact Nat.lt_of_sub_pos (by rfl) | (simp;done) | simp [devHead]) sz25 (hx1) ?_
   refine LW.go uu 7 rfl ?_
   by_cases hln:ms.length<n
   . refine LW.lssT ?_
     refine LW.go uu 4 rfl (LW.makeFn (vs:=[]) (us:=[ptr ba9]) trivial ⟨rfl,trivial⟩ rfl ?_)
     refine LW.go uu 1 rfl (LW.eT (ctf_281 W B ((ch++(bag++rows))++[cr ba9 25 [x.1]]) (.slice A7 ms.length cp7) ms (fun y=>y.1) (fun y=>decide (y.2=x.2)) 282 [ptr ba9] cl282 (hmr.2.1.sl.more fun y hy=>List.mem_append_left _ (List.mem_append_left _ hy)) (by omega) (fun y hy=>means_Mid1 W B (ch++(bag++rows)) ba9 y.1 x.1 y.2 x.2 ((hmr.2.2 y hy).right) (hxv.right.right) (by have:=(hmo y.2 (List.mem_map.2 ⟨y,hy,rfl⟩)).1;omega))) cl281 (Take.both .n3 .t) ?_)
     refine LW.splitA (LW.splitA (LW.splitB ?_))
     refine LW.go uu 5 rfl ?_
     refine CW.cond rfl (fun hc36=>?_) (fun hc36=>?_)
     . have hany:(ms.map (·.2)).any (fun m=>m==x.2)=false:=by
         have h0:ms.any (fun y=>decide (y.2=x.2))=false:=by simpa using hc36
         rw [List.any_map];rw [<- h0];congr 1;funext y;exact Bool.eq_iff_iff.2 (by simp)
       have hpm2:putM n (ms.map (·.2)) x.2=(ms++[(Value.bool true,x.2)]).map (·.2):=by unfold putM;rw [if_pos ⟨by rw [List.length_map];exact hln,hany⟩];simp
       refine CW.go uu 2 rfl (LW.slice0 underlying25 info21 rfl ?_)
       intro bs38
       refine LW.ld one25 ?_
       obtain⟨Ax,cpx,hxe,hcx,hlx,hsx,hax⟩:=hxv
       refine LW.append (x.2.map i32v) rfl rfl underlying25 underlying25 (.inr ⟨_,rfl⟩) info21 rfl (OwnS.row (m:=0) (xs:=[]) rfl) .t (fun w=>(congrArg (fun u=>(Builtin.lenOf u).run prog w) hxe).trans (lenOf_slice Ax x.2.length cpx w)) (by rw [hxe];exact first_rd (hsx.rd .t) hlx hax) (by simp) (i32v_one _) (by have:=hxo.1;omega) (by have:=hxo.1;omega) rfl ?_
       intro v40 ch40 ho40;have ho40:=(by simpa using ho40:OwnS 21 1 v40 x.2.length (x.2.map i32v) ch40)
       refine LW.buildSlice (vs:=[_]) ⟨rfl,trivial⟩ rfl (by intro v hv;simp at hv;subst hv;exact ho40.one) underlying22 info25 rfl (by decide) (by decide) rfl ?_
       intro bs41
       refine LW.append ([v40]) rfl rfl underlying22 underlying22 (.inr ⟨_,rfl⟩) info25 rfl (hmr.2.1) .t (fun _=>lenOf_slice _ _ _ _) (first_rd (RdAt.row .t (fun j v hj=>by simpa using hj)) rfl (fun h=>by cases h)) (rfl) (by intro u hu;simp at hu;subst hu;exact ho40.one) (by omega) (by omega) rfl ?_
       intro v42 ch42 ho42;refine LW.front (p:=bag) .t (LW.front (p:=ch40) .t (LW.unfoc (a:=ch40++bag) (List.Perm.refl _) ?_))
       refine LW.go uu 5 rfl (LW.ad ((j+1:Int)) ?_)
       exact LW.go uu 2 rfl (NW.mG ((j+1,v42,ms++[(v40,x.2)],ch42,ch40++bag)) (by exact⟨⟨by omega,⟨rfl,by dsimp only;rw [List.map_append,List.length_append];exact ho42,by dsimp only;intro y hy;rcases List.mem_append.1 hy with hy | hy;rw [List.append_assoc];exact (hmr.2.2 y hy).right;(simp at hy;subst hy;exact ho40.vec.left.left)⟩,by dsimp only;rw [hpm,hpm2];simp,by dsimp only;intro y hy;simp only [List.map_append,List.mem_append,List.map_cons,List.map_nil,List.mem_singleton] at hy;rcases hy with hy | rfl;exact hmo y hy;exact hxo,by dsimp only;simp;omega⟩,by dsimp only;omega⟩))
     . have hpm3:putM n (ms.map (·.2)) x.2=ms.map (·.2):=by
         have h0:ms.any (fun y=>decide (y.2=x.2))=true:=by simpa using hc36
         have h9:(ms.map (·.2)).any (fun m=>m==x.2)=true:=by rw [List.any_map];rw [<- h0];congr 1;funext y;exact Bool.eq_iff_iff.2 (by simp)
         unfold putM;rw [if_neg (by rw [h9];simp)]
       refine CW.go uu 4 rfl (LW.ad ((j+1:Int)) ?_)
       exact LW.go uu 2 rfl (NW.mG ((j+1,.slice A7 ms.length cp7,ms,ch,bag)) (by exact⟨⟨by omega,hmr,by dsimp only;rw [hpm,hpm3],hmo,hmn⟩,by dsimp only;omega⟩))
   . refine LW.lssF ?_
     refine LW.go uu 6 rfl ?_
     have hpm3:putM n (ms.map (·.2)) x.2=ms.map (·.2):=by unfold putM;rw [if_neg (by rw [List.length_map];omega)]
     refine LW.go uu 7 rfl (LW.ad ((j+1:Int)) ?_)
     exact LW.go uu 2 rfl (NW.mG ((j+1,.slice A7 ms.length cp7,ms,ch,bag)) (by exact⟨⟨by omega,hmr,by dsimp only;rw [hpm,hpm3],hmo,hmn⟩,by dsimp only;omega⟩))
 . have hjn:j=vs.length:=oF hc24
   rw [hjn,List.take_of_length_le (by simp)] at hms
   refine CW.go uu 2 rfl (NW.then_exit (NW.go uu 4 rfl ?_))
   generalize hN:ms.length=N at hmr hmn hA7 hc7 |-
   refine CW.go uu 6 rfl ?_
   refine CW.loopG (fun st:Nat×List (Value×List Int)×List Row×List Row=>[(45,iN st.1),(44,iN times),(7,.slice A7 N cp7),(2,.slice A vs.length cp)]) (fun st=>[st.2.2.1,st.2.2.2,rows]) (fun st=>st.1<=times/\MidsR W B N rows (.slice A7 N cp7) st.2.1 st.2.2.1 st.2.2.2/\iterP (fun l=>midsStep l (vs.map (·.2))) (times-st.1) (st.2.1.map (·.2))=midsP n times (vs.map (·.2))/\VecsIn (st.2.1.map (·.2))) (fun st=>times-st.1) (0,ms,ch,bag) (by exact⟨Nat.zero_le _,hmr,by rw [hms];rfl,hmo⟩) rfl (by repeat' constructor) ?_
   rintro⟨t,m2,c2,g2⟩ ⟨ht2,hr2,hi2,ho2⟩;dsimp only at ht2 hr2 hi2 ho2 |-
   refine CW.go uu 2 rfl (LW.lss (decide ((t:Int)<(times:Int))) rfl rfl (rfl) rfl ?_)
   refine LW.go uu 3 rfl ?_
   refine CW.cond rfl (fun hc46=>?_) (fun hc46=>?_)
   . have htn:t<times:=oT hc46
     have hm2N:=hr2.1
     have hr2v:=hr2.vecs
     rw [show times-t=(times-(t+1))+1 by omega] at hi2
     simp only [iterP] at hi2
     refine CW.go uu 8 rfl (LW.make (N) (N) (List.replicate N (.slice none 0 0)) rfl rfl (by first | rfl | omega) (by first | rfl | omega) underlying387 info22 (by omega) (by omega) (by omega) (hz _) rfl ?_)
     intro bm49
     refine LW.go uu 5 rfl (CW.addNil (a:=(List.replicate N ([]:List Row)).flatten) (by simp) ?_)
     refine CW.go uu 7 rfl ?_
     refine CW.loopG (fun st:Nat×List Value×List (List Row)=>[(52,iN st.1),(51,iN vs.length),(50,.slice A vs.length cp),(10,.slice (sA bm49) N N),(45,iN t),(44,iN times),(7,.slice A7 N cp7),(2,.slice A vs.length cp)]) (fun st=>[[cr bm49 22 st.2.1],st.2.2.flatten,c2,g2,rows]) (fun st=>st.1<=vs.length/\GrpR (m2.map (·.2)) vs st.1 N st.2.1 st.2.2) (fun st=>vs.length-st.1) (0,List.replicate N (.slice none 0 0),List.replicate N []) (by exact⟨Nat.zero_le _,GrpR.zero _ _ _⟩) rfl (by repeat' constructor) ?_
     rintro⟨j,ovs,chs⟩ ⟨hj,hgr⟩;dsimp only at hj hgr |-
     refine CW.go uu 2 rfl (LW.lss (decide ((j:Int)<(vs.length:Int))) rfl rfl (rfl) rfl ?_)
     refine LW.go uu 3 rfl ?_
     refine CW.cond rfl (fun hc53=>?_) (fun hc53=>?_)
     . have hjn:j<vs.length:=oT hc53
       obtain⟨x,hxj,hxd⟩:=drop_at hjn
       obtain⟨a1,rfl⟩:∃ x,A=some x:=smA hA
       have hxm:=List.mem_of_getElem? hxj
       have hxo:=hok x.2 (List.mem_map.2 ⟨x,hxm,rfl⟩)
       have hxv:=hvv x hxm
       have hx1:=hxv.one
       have hg:(vs.map (·.1))[((j:Nat):Int).toNat*1]?=some x.1:=by rw [Int.toNat_natCast,Nat.mul_one,List.getElem?_map,hxj];rfl
       have hnc:=near_cases (m2.map (·.2)) x.2
       rw [List.length_map,hm2N] at hnc
       refine CW.go uu 6 rfl (LW.indexAt rfl rfl underlying22 ixs22 (by omega) (by omega) rfl ?_)
       refine LW.loadRd (v:=x.1) rfl (hsrc.rd .t) (hg) one25 rfl ?_
       refine LW.go uu 7 rfl (LW.eT (means_Nearest W B (c2++(g2++rows)) (.slice A7 N cp7) x.1 m2 x.2 hr2v hxv.right.right (by omega) ho2 hxo) cl166 .n3 ?_)
       refine LW.splitA (LW.splitB ?_)
       refine LW.go uu 6 rfl ?_
       by_cases hN0:N=0
       . refine LW.geqF ?_
         refine LW.go uu 7 rfl (LW.ad ((j+1:Int)) ?_)
         exact LW.go uu 2 rfl (NW.mG ((j+1,ovs,chs)) (by exact⟨⟨by omega,by dsimp only;subst hN0;exact hgr.none⟩,by dsimp only;omega⟩))
       . refine LW.geqT ?_
         refine LW.go uu 3 rfl ?_
         obtain⟨i0,hi0⟩:∃ i0:Nat,nearP (m2.map (·.2)) x.2=(i0:Int):=⟨(nearP (m2.map (·.2)) x.2).toNat,(Int.toNat_of_nonneg (by omega)).symm⟩
         have hi0N:i0<N:=by omega
         obtain⟨ov,ch0,hov,hch,hown⟩:=hgr.2.2 i0 hi0N
         obtain⟨Ao,co,rfl,hAo,hco⟩:=hown.val
         have hgl:=grp_len (m2.map (·.2)) vs j i0
         rw [hi0]
         refine CW.go uu 5 rfl (LW.indexAddr (i0) rfl rfl underlying387 ixs387 (by omega) (by omega) (by simp) rfl ?_)
         refine LW.load (v:=.slice Ao (grp (m2.map (·.2)) vs j i0).length co) rfl .t (hov) one22 rfl ?_
         refine LW.go uu 1 rfl (LW.buildSlice (vs:=[_]) ⟨rfl,trivial⟩ rfl (by intro v hv;simp at hv;subst hv;exact hx1) underlying22 info25 rfl (by decide) (by decide) rfl ?_)
         intro bs68
         refine LW.front (p:=chs.flatten) .t (LW.foc (flat_get hch) ?_)
         refine LW.append ([x.1]) rfl rfl underlying22 underlying22 (.inr ⟨_,rfl⟩) info25 rfl (hown) .t (fun _=>lenOf_slice _ _ _ _) (first_rd (RdAt.row .t (fun j v hj=>by simpa using hj)) rfl (fun h=>by cases h)) (rfl) (by intro u hu;simp at hu;subst hu;exact hx1) (by omega) (by omega) rfl ?_
         intro v69 ch69 ho69
         refine LW.indexAddr (i0) rfl rfl underlying387 ixs387 (by omega) (by omega) (by simp) rfl ?_
         refine LW.store rfl rfl .t (by rw [hgr.1];exact hi0N) sz22 (ho69.one) ?_
         refine LW.go uu 3 rfl ?_
         refine CW.front (p:=(chs.eraseIdx i0).flatten) .t (CW.front (p:=ch69) .t (CW.unfoc (flat_set (by rw [hgr.2.1];exact hi0N)) ?_))
         refine CW.go uu 1 rfl (LW.ad ((j+1:Int)) ?_)
         exact LW.go uu 2 rfl (NW.mG ((j+1,ovs.set i0 v69,chs.set i0 ch69)) (by exact⟨⟨by omega,hgr.step hxj hi0 hi0N ho69⟩,by dsimp only;omega⟩))
     . have hjn:j=vs.length:=oF hc53
       rw [hjn] at hgr
       refine CW.go uu 2 rfl (NW.then_exit (NW.go uu 10 rfl ?_))
       refine CW.loopG (fun st:Nat×List (Value×List Int)×List Row×List Row=>[(74,iN st.1),(73,iN N),(10,.slice (sA bm49) N N),(45,iN t),(44,iN times),(7,.slice A7 N cp7),(2,.slice A vs.length cp)]) (fun st=>[st.2.2.1,st.2.2.2,[cr bm49 22 ovs],chs.flatten,rows]) (fun st=>st.1<=N/\MidsR W B N rows (.slice A7 N cp7) st.2.1 st.2.2.1 st.2.2.2/\st.2.1.map (·.2)=(midsStep (m2.map (·.2)) (vs.map (·.2))).take st.1++(m2.map (·.2)).drop st.1) (fun st=>N-st.1) (0,m2,c2,g2) (by exact⟨Nat.zero_le _,hr2,by simp⟩) rfl (by repeat' constructor) ?_
       rintro⟨i,m3,c3,g3⟩ ⟨hi,hr3,hm3⟩;dsimp only at hi hr3 hm3 |-
       refine CW.go uu 2 rfl (LW.lss (decide ((i:Int)<(N:Int))) rfl rfl (rfl) rfl ?_)
       refine LW.go uu 3 rfl ?_
       refine CW.cond rfl (fun hc75=>?_) (fun hc75=>?_)
       . have hin:i<N:=oT hc75
         obtain⟨h3l,h3o,h3v⟩:=hr3
         rcases h3o with ⟨hvn,h30,_,_⟩ | ⟨b7,cap7,slack7,hvn,hxl7,hcap7,hsl7,rfl⟩
         . exact absurd h30 (by omega)
         injection hvn with e1 e2 e3
         subst e1 e3
         obtain⟨y,hyi,hyd⟩:=drop_at (xs:=m3) (i:=i) (by omega)
         obtain⟨ov,ch0,hov,hch,hown⟩:=hgr.2.2 i hin
         have hgl:=grp_len (m2.map (·.2)) vs vs.length i
         have hlen3:((midsStep (m2.map (·.2)) (vs.map (·.2))).take i).length=i:=by rw [List.length_take,midsStep_len,List.length_map];omega
         obtain⟨z,hzi,hzd⟩:=drop_at (xs:=m2.map (·.2)) (i:=i) (by rw [List.length_map];omega)
         have hy2:y.2=z:=by
           have e4:(m3.map (·.2))[i]?=some y.2:=by rw [List.getElem?_map,hyi];rfl
           rw [hm3,List.getElem?_append_right (by omega),hlen3,Nat.sub_self,hzd] at e4
           simpa using e4.symm
         have hyo:VOk y.2:=by rw [hy2];exact ho2 z (List.mem_of_getElem? hzi)
         have hst:(midsStep (m2.map (·.2)) (vs.map (·.2)))[i]?=some (midP y.2 ((grp (m2.map (·.2)) vs vs.length i).map (·.2))):=by rw [midsStep,mapIdx_get,hzi,grp_all,hy2];rfl
         have hyv:=h3v y (List.mem_of_getElem? hyi)
         refine CW.go uu 10 rfl (CW.drawT [cr b7 25 (m3.map (·.1)++slack7),cr bm49 22 ovs] 12 mixed ?_)
         refine AT.ts [(0,none),(1,none),(2,none),(3,none),(4,none),(5,some []),(6,none),(7,none),(8,none),(9,some [])] 3 (TT.mv ?_)
         refine TT.mv ?_
         refine TT.mv ?_
         refine TT.mv ?_
         refine TT.take rfl (Yl.indexAddr (i) rfl rfl underlying22 ixs22 (by omega) (by omega) (by simp)) rfl ?_
         refine TT.takeH rfl (Yl.load (v:=y.1) rfl (by repeat (first | exact List.Mem.head _ | refine List.Mem.tail _ ?_)) (by rw [List.getElem?_append_left (by rw [List.length_map];omega),List.getElem?_map,hyi];rfl) one25) rfl ?_
         refine TT.mv ?_
         refine TT.mv ?_
         refine TT.take rfl (Yl.indexAddr (i) rfl rfl underlying387 ixs387 (by omega) (by omega) (by simp)) rfl ?_
         refine TT.takeH rfl (Yl.load (v:=ov) rfl (by repeat (first | exact List.Mem.head _ | refine List.Mem.tail _ ?_)) (hov) one22) rfl ?_
         refine TT.nil (AT.a 10 ?_)
         refine LW.cT (means_middle W B (chs.flatten++(g3++rows)) y.1 ov y.2 (grp (m2.map (·.2)) vs vs.length i) hyv.right ⟨hown.sl.more fun x hx=>List.mem_append_left _ ((flat_get hch).mem_iff.1 (List.mem_append_left _ hx)),fun x hx=>(hvv x (grp_sub hx)).right.right⟩ (by omega) hyo (fun x hx=>by obtain⟨q,hq,rfl⟩:=List.mem_map.1 hx;exact hok _ (List.mem_map.2 ⟨q,grp_sub hq,rfl⟩))) cl283 .n3 ?_
         rintro r _ ⟨chm,hr,rfl⟩;refine LW.splitA (LW.splitB (LW.splitC ?_))
         have hr1:r.oneCell'=true:=by rcases hr with ⟨rfl,_⟩ | hr;exact hyv.one;exact hr.one
         refine LW.nil (AT.b (AT.ts [(11,none)] 1 (TT.take rfl (Yl.indexAddr (i) rfl rfl underlying22 ixs22 (by omega) (by omega) (by simp)) rfl ?_)))
         refine TT.nil (AT.a 12 ?_)
         refine LW.store rfl rfl .t (by rw [List.length_append,List.length_map];omega) sz25 (hr1) ?_
         refine LW.nil (AT.backK (by kernel_rfl) ?_)
         refine AT.done (by kernel_rfl) ?_
         refine NW.go uu 2 rfl ?_
         refine CW.front (p:=g3) .t (CW.front (p:=chm) .t (CW.unfoc (a:=chm++g3) (List.Perm.refl _) ?_))
         refine CW.go uu 1 rfl (LW.ad ((i+1:Int)) ?_)
         exact LW.go uu 2 rfl (NW.mG ((i+1,m3.set i (r,midP y.2 ((grp (m2.map (·.2)) vs vs.length i).map (·.2))),[cr b7 25 ((m3.map (·.1)++slack7).set i r)],chm++g3)) (by exact⟨⟨by omega,mids_set h3l h3v hin hxl7 hcap7 hsl7 hr hyi,by dsimp only;rw [List.map_set,hm3,mids_step hlen3 hst (by rw [List.length_map];omega)]⟩,by dsimp only;omega⟩))
       . have hin:i=N:=oF hc75
         rw [hin,List.take_of_length_le (by rw [midsStep_len,List.length_map];omega),List.drop_eq_nil_of_le (by rw [List.length_map];omega),List.append_nil] at hm3
         refine CW.go uu 2 rfl (NW.then_exit (NW.go uu 4 rfl (LW.ad ((t+1:Int)) ?_)))
         exact LW.go uu 2 rfl (NW.mG ((t+1,m3,c3,g3)) (by exact⟨⟨by omega,hr3,by dsimp only;rw [hm3];exact hi2,by dsimp only;rw [hm3];exact midsStep_ok ho2 hok⟩,by dsimp only;omega⟩))
   . have htn:t=times:=oF hc46
     rw [htn,Nat.sub_self] at hi2
     refine CW.go uu 2 rfl (NW.then_exit (NW.go uu 9 rfl ?_))
     refine NW.ret1 rfl rfl ⟨_,⟨N,m2,c2,g2,hr2,hi2,ho2,by omega,rfl⟩,?_⟩
     exact .s3
end
end Go.Proofs.YtnlpccoigflheaaGreatDoor
