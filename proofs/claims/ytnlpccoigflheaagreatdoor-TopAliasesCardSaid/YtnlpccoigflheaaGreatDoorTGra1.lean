/- TGra0 TGra1 -/
import Derived.Test.YtnlpccoigflheaaGreatDoorTCoded
import Derived.Test.YtnlpccoigflheaaGreatDoorFac
namespace Go.Proofs.YtnlpccoigflheaaGreatDoor
open Go.RowKit
open Go.Proofs.Tryz
def Tux:Tbl:=⟨[(72,0,0),(281,1,1),(284,1,1)],[],[37,85]⟩
theorem ux:Tux.Ok Tryz.prog:=.of (⟨⟨_,Tryz.underlying37⟩,⟨_,Tryz.underlying85⟩,trivial⟩)
section
variable {P:Program}{n:Nat}{c:Ctx}{Q:Exit->Act->World->Prop}{e:Env}{h h':Heap}{ops:Array Oper}{rest:List Oper}{d ty:Nat}{pos:String}{af:Array Edge}
theorem LW.indexAddrA {t el sz len:Nat}{x y:Operand}{b o:Nat}{ki:IntKind}{p:Int}(o':Nat)(hx:e.ev x=some (.pointer (some ⟨b,o,none⟩)))(hy:e.ev y=some (.int ki p))(ht:P.underlying t=some (.array len el))
  (hsz:(P.info? el).map (·.size)=some sz) (h0:0<=p) (h1:p<(len:Int)) (ho:o+p.toNat*sz=o') (hd:Nat.blt d n=true) (k:LW P n c ops Q rest ((d,.pointer (some ⟨b,o',none⟩))::e) h) :
  LW P n c ops Q (⟨some d,.indexAddr t x y,ty,pos,af,none⟩::rest) e h:=
 LW.val _ hd (fun a w hf _=>by
  subst ho
  obtain⟨i,hi,rfl⟩:=Option.map_eq_some_iff.1 hsz
  simp [execOp,hf.eval hx,hf.eval hy,Instr.indexAt,Instr.sureAddr,run_underlying ht,asIntOf,h0,h1,sizeOf,typeInfo,hi,Addr.add_lit]) k
theorem Yl.indexAddrA {S:World->Prop}{t el sz len:Nat}{x y:Operand}{b o:Nat}{ki:IntKind}{p:Int}(o':Nat)(hx:e.ev x=some (.pointer (some ⟨b,o,none⟩)))(hy:e.ev y=some (.int ki p))(ht:P.underlying t=some (.array len el))
  (hsz:(P.info? el).map (·.size)=some sz) (h0:0<=p) (h1:p<(len:Int)) (ho:o+p.toNat*sz=o'):Yl P n S e ⟨some d,.indexAddr t x y,ty,pos,af,none⟩ (.pointer (some ⟨b,o',none⟩)):=
 fun a w hf _=>by
  subst ho
  obtain⟨i,hi,rfl⟩:=Option.map_eq_some_iff.1 hsz
  simp [execOp,hf.eval hx,hf.eval hy,Instr.indexAt,Instr.sureAddr,run_underlying ht,asIntOf,h0,h1,sizeOf,typeInfo,hi,Addr.add_lit]
theorem LW.appendIn {t t2 el sz by_ m k cap b:Nat}{x y:Operand}{u z:Value}{tr:TypeId}{l:List Value}{d2:TypeDesc}(ys l':List Value)(hx:e.ev x=some (.slice (some ⟨b,0,none⟩) m cap))(hy:e.ev y=some u)(ht:P.underlying t=some (.slice el))(ht2:P.underlying t2=some d2)(hd2:d2=.string\/∃ q,d2=.slice q)
  (hi:(P.info? el).map (fun i=>(i.zero,i.size,i.bytes))=some (some z,sz,by_)) (tk:Take [cr b tr l] h h') (hlen:∀ w,(Builtin.lenOf u).run P w=.ok k w)
  (hfirst:∀ w',St c h w'->(Builtin.firstCells sz k u).run P w'=.ok ys.toArray w') (h1:∀ u∈ys,u.oneCell'=true) (hfit:m+k<=cap) (hfl:m*sz+ys.length<=l.length) (hl':l.take (m*sz)++ys++l.drop (m*sz+ys.length)=l') (hd:Nat.blt d n=true)
  (kk:LW P n c ops Q rest ((d,.slice (some ⟨b,0,none⟩) (m+k) cap)::e) ([cr b tr l']::h')) :
  LW P n c ops Q (⟨some d,.call { callee:=.builtin .append,args:=#[x,y],argTypes:=#[t,t2] },ty,pos,af,none⟩::rest) e h:=
 LW.act hd fun a w hf s=>by
  subst hl'
  obtain⟨i,hi',hz,rfl,rfl⟩:=info_parts hi
  have hst:=run_storeCells_at P b (m*i.size) tr ys 0 l.toArray w (s.row tk) (by simpa using hfl) h1
  simp only [Nat.add_zero] at hst
  have hrun:=run_append_fit (P:=P) (w:=w) (ty:=ty) (base:=some ⟨b,0,none⟩) ht ht2 hd2 hi' rfl (hlen w) (hfirst w s) hfit
  simp only [Addr.add_mid,Nat.zero_add,hst,Result.andThen_ok] at hrun
  refine⟨_,_,_,?_,s.setRow tk,kk⟩
  simp only [execOp,resolve,invoke,builtin,List.map_toArray,List.map_cons,List.map_nil,hf.eval hx,hf.eval hy,Sem.run_bind,Sem.run_pure,Result.andThen_ok,hrun]
theorem NW.heap' {x:Exit}{h':Heap}(k:NW n c x Q e h')(hh:Sub h'.flatten h.flatten):NW n c x Q e h:=fun a w hf hs=>k a w hf (hs.sub hh)
theorem NW.front {x:Exit}{p:List Row}(tk:Take p h h')(k:NW n c x Q e (p::h')):NW n c x Q e h:=k.heap' (Sub.of_perm (by rw [List.flatten_cons];exact tk))
theorem NW.unfoc {x:Exit}{a ch r:List Row}(hp:(ch++r).Perm a)(k:NW n c x Q e (a::h)):NW n c x Q e (ch::r::h):=k.heap' (Sub.of_perm (by simp only [List.flatten_cons];rw [<- List.append_assoc];exact (hp.append_right _).symm))
end
def cntLt (x:Int)(xs:List Int):Nat:=(xs.filter fun y=>decide (y<x)).length
def Strict (xs:List Int):Prop:=xs.Pairwise (· < ·)
theorem Strict.at {xs:List Int}(h:Strict xs){i j:Nat}{a b:Int}(hi:xs[i]?=some a)(hj:xs[j]?=some b)(hij:i<j):a<b:=by
 obtain⟨h1,rfl⟩:=List.getElem?_eq_some_iff.1 hi
 obtain⟨h2,rfl⟩:=List.getElem?_eq_some_iff.1 hj
 exact List.pairwise_iff_getElem.1 h i j h1 h2 hij
theorem cntLt_cut {x:Int}:∀ {xs:List Int} {k:Nat},k<=xs.length->(∀ j a,j<k->xs[j]?=some a->a<x)->(∀ j a,k<=j->xs[j]?=some a->x<=a)->cntLt x xs=k
 | [],k,hk,_,_=>by simp at hk;subst hk;rfl
 | y::r,0,_,_,h2=>by
  have h0:=h2 0 y (Nat.le_refl _) rfl
  have ih:=cntLt_cut (x:=x) (xs:=r) (k:=0) (Nat.zero_le _) (fun j a hj=>absurd hj (Nat.not_lt_zero _)) (fun j a _ ha=>h2 (j+1) a (Nat.zero_le _) (by simpa using ha))
  unfold cntLt at *
  rw [List.filter_cons,if_neg (by simp;exact h0)]
  exact ih
 | y::r,k+1,hk,h1,h2=>by
  have h0:=h1 0 y (Nat.zero_lt_succ _) rfl
  have ih:=cntLt_cut (x:=x) (xs:=r) (k:=k) (by simpa using hk) (fun j a hj ha=>h1 (j+1) a (by omega) (by simpa using ha)) (fun j a hj ha=>h2 (j+1) a (by omega) (by simpa using ha))
  unfold cntLt at *
  rw [List.filter_cons,if_pos (by simp;exact h0),List.length_cons,ih]
theorem cntLt_le (x:Int)(xs:List Int):cntLt x xs<=xs.length:=List.length_filter_le _ _
theorem strict_cut {x:Int}:∀ {xs:List Int},Strict xs->(x∈xs->xs[cntLt x xs]?=some x)/\insU x xs=(if x∈xs then xs else xs.take (cntLt x xs)++[x]++xs.drop (cntLt x xs))/\(x∈xs->xs.erase x=xs.take (cntLt x xs)++xs.drop (cntLt x xs+1))
 | [],_=>by simp [insU,insI,cntLt]
 | y::r,h=>by
  have h':=h
  unfold Strict at h'
  rw [List.pairwise_cons] at h'
  obtain⟨ih1,ih2,ih3⟩:=strict_cut (x:=x) h'.2
  have hlt:y<x->cntLt x (y::r)=cntLt x r+1:=fun hy=>by unfold cntLt;rw [List.filter_cons,if_pos (by simpa using hy)];rfl
  have hge:¬ y<x->cntLt x (y::r)=0:=fun hy=>by
    unfold cntLt
    rw [List.filter_cons,if_neg (by simpa using hy),List.length_eq_zero_iff,List.filter_eq_nil_iff]
    intro z hz
    have:=h'.1 z hz
    simp;omega
  refine⟨fun hm=>?_,?_,fun hm=>?_⟩
  . rcases List.mem_cons.1 hm with rfl | hm
    . rw [hge (by omega)];rfl
    . rw [hlt (h'.1 x hm)];simpa using ih1 hm
  . by_cases hm:x∈y::r
    . rw [if_pos hm];unfold insU;rw [if_pos (by simpa using hm)]
    . rw [if_neg hm]
      have hmr:x∉r:=fun hh=>hm (List.mem_cons_of_mem _ hh)
      have hxy:x≠y:=fun hh=>hm (hh ▸ List.mem_cons_self)
      rw [if_neg hmr] at ih2
      unfold insU at ih2 |-
      rw [if_neg (by simpa using hmr)] at ih2
      rw [if_neg (by simpa using hm)]
      simp only [insI]
      by_cases hy:y<x
      . rw [if_neg (by omega),ih2,hlt hy];simp
      . rw [if_pos (by omega),hge hy];simp
  . by_cases hy:y=x
    . subst hy
      rw [List.erase_cons_head,hge (by omega)];simp
    . rcases List.mem_cons.1 hm with rfl | hmr
      . exact absurd rfl hy
      . rw [List.erase_cons_tail (by simpa using hy),ih3 hmr,hlt (h'.1 x hmr)];simp
theorem insI_strict {x:Int}{xs:List Int}(h:Strict xs)(hx:x∉xs):Strict (insI x xs):=by
 have h1:=insI_sorted x (l:=xs) (h.imp fun h=>Int.le_of_lt h)
 have h2:(insI x xs).Nodup:=(insI_perm x xs).nodup_iff.2 (List.nodup_cons.2 ⟨hx,h.imp fun h=>Int.ne_of_lt h⟩)
 unfold Strict
 rw [List.nodup_iff_pairwise_ne] at h2
 exact (h1.and h2).imp fun⟨a,b⟩=>by omega
theorem insU_strict {x:Int}{xs:List Int}(h:Strict xs):Strict (insU x xs):=by
 unfold insU
 split
 . exact h
 . rename_i hc;exact insI_strict h (by simpa using hc)
theorem erase_strict {x:Int}{xs:List Int}(h:Strict xs):Strict (xs.erase x):=List.Pairwise.sublist (List.erase_sublist) h
theorem insU_mem {x y:Int}{xs:List Int}:y∈insU x xs↔y=x\/y∈xs:=by
 unfold insU
 split
 . rename_i hc
   have hc:x∈xs:=by simpa using hc
   exact⟨fun h=>.inr h,fun h=>by rcases h with rfl | h;exact hc;exact h⟩
 . rw [(insI_perm x xs).mem_iff];simp
section
variable (W:World)(B:Nat)
theorem cmp_isNaN (x:Int):Spec prog W B 337 [.int .i64 x] [] (fun r post=>r=.bool false/\post=[]):=by
 refine Spec.eG [] func337 ntmps337 fun w0=>?_
 refine CW.go ux 9 rfl (LW.neq (false) rfl rfl (by simp) rfl ?_)
 refine LW.go ux 4 rfl ?_
 refine NW.r1 ⟨_,⟨rfl,rfl⟩,?_⟩
 exact Sub.nil _
theorem sl_isNaN (x:Int):Spec prog W B 289 [.int .i64 x] [] (fun r post=>r=.bool false/\post=[]):=by
 refine Spec.eG [] func289 ntmps289 fun w0=>?_
 refine CW.go ux 9 rfl (LW.neq (false) rfl rfl (by simp) rfl ?_)
 refine LW.go ux 4 rfl ?_
 refine NW.r1 ⟨_,⟨rfl,rfl⟩,?_⟩
 exact Sub.nil _
theorem cmp_Less (x y:Int):Spec prog W B 288 [.int .i64 x,.int .i64 y] [] (fun r post=>r=.bool (decide (x<y))/\post=[]):=by
 refine Spec.eG [] func288 ntmps288 fun w0=>?_
 refine CW.go ux 8 rfl (LW.eT (cmp_isNaN W B x) cl337 ((Take.none _)) ?_)
 refine LW.go ux 11 rfl (LW.lss (decide (x<y)) rfl rfl (rfl) rfl ?_)
 refine LW.go ux 5 rfl ?_
 refine NW.r1 ⟨_,⟨rfl,rfl⟩,?_⟩
 exact Sub.nil _
theorem bin_search (rows:List Row)(v:Value)(xs:List Int)(x:Int)(hs:SlAt W B rows v xs.length (xs.map i64k) 1)(hm:xs.length<=1000000)(hst:Strict xs) :
   Spec prog W B 234 [v,.int .i64 x] rows (fun r post=>r=.tuple #[.int .i64 (cntLt x xs:Int),.bool (xs.contains x)]/\post=rows):=by
 obtain⟨A,cp,rfl,hcp,hl,hsrc,hA⟩:=hs
 have hcc:=cntLt_le x xs
 refine Spec.eG [rows] func234 ntmps234 fun w0=>?_
 refine CW.go ux 22 rfl ?_
 refine CW.loopG (fun st:Nat×Nat=>[(7,iN st.1),(8,iN st.2),(6,iN xs.length),(0,.slice A xs.length cp),(1,.int .i64 x)]) (fun _=>[rows]) (fun st=>st.1<=st.2/\st.2<=xs.length/\(∀ j a,j<st.1->xs[j]?=some a->a<x)/\(∀ j a,st.2<=j->xs[j]?=some a->x<=a)) (fun st=>st.2-st.1) (0,xs.length) (by exact⟨Nat.zero_le _,Nat.le_refl _,fun j a hj=>absurd hj (Nat.not_lt_zero _),fun j a hj ha=>absurd (List.getElem?_eq_some_iff.1 ha).1 (Nat.not_lt.2 hj)⟩) rfl (by repeat' constructor) ?_
 rintro⟨lo,hi⟩ ⟨h1,h2,h3,h4⟩;dsimp only at h1 h2 h3 h4 |-
 refine CW.go ux 5 rfl (LW.lss (decide ((lo:Int)<(hi:Int))) rfl rfl (rfl) rfl ?_)
 refine LW.go ux 2 rfl ?_
 refine CW.cond rfl (fun hc15=>?_) (fun hc15=>?_)
 . have hlt:lo<hi:=oT hc15
   obtain⟨md,hmd⟩:∃ md,md=(lo+hi)/2:=⟨_,rfl⟩
   have hml:lo<=md/\md<hi:=by omega
   obtain⟨a,rfl⟩:∃ x,A=some x:=smA hA
   obtain⟨y,hy,_⟩:=drop_at (xs:=xs) (i:=md) (by omega)
   refine CW.go ux 7 rfl (LW.ad (((lo+hi:Nat):Int)) ?_)
   refine LW.convInt (((lo+hi:Nat):Int)) rfl underlying3 underlying109 (by exact IntWalk.u64_in _ ⟨by omega,by omega⟩) rfl ?_
   refine LW.shr ((md:Int)) rfl rfl (by omega) (by rw [hmd];show Int.fdiv _ (2 ^ min 1 64)=_;rw [Int.fdiv_eq_ediv_of_nonneg _ (by decide)];simp) rfl ?_
   refine LW.convInt ((md:Int)) rfl underlying109 underlying3 (by exact wr64 rfl (by omega) (by omega)) rfl ?_
   refine LW.go ux 7 rfl (LW.indexAt rfl rfl underlying85 ixs85 (by omega) (by omega) rfl ?_)
   refine LW.loadRd (v:=.int .i64 y) rfl (hsrc.rd .t) (i64k_at hy) one3 rfl ?_
   refine LW.go ux 1 rfl (LW.eT (cmp_Less W B y x) cl288 ((Take.none _)) ?_)
   refine LW.go ux 2 rfl ?_
   refine CW.cond rfl (fun hc27=>?_) (fun hc27=>?_)
   . have hyx:y<x:=of_decide_eq_true hc27
     refine CW.go ux 2 rfl (LW.ad (((md+1:Nat):Int)) ?_)
     exact LW.go ux 3 rfl (NW.mG ((md+1,hi)) (by exact⟨⟨by dsimp only;omega,h2,fun j b hj hb=>by dsimp only at hj;rcases Nat.lt_or_ge j md with hjm | hjm;exact Int.lt_trans (hst.at hb hy hjm) hyx;(have e:j=md:=by omega);subst e;rw [hy] at hb;cases hb;exact hyx,h4⟩,by dsimp only;omega⟩))
   . have hyx:x<=y:=oF hc27
     exact CW.go ux 5 rfl (NW.mG ((lo,md)) (by exact⟨⟨by dsimp only;omega,by dsimp only;omega,h3,fun j b hj hb=>by dsimp only at hj;rcases Nat.lt_or_ge md j with hjm | hjm;exact Int.le_trans hyx (Int.le_of_lt (hst.at hy hb hjm));(have e:j=md:=by omega);subst e;rw [hy] at hb;cases hb;exact hyx⟩,by dsimp only;omega⟩))
 . have hlt:lo=hi:=oF hc15
   subst hlt
   have hct:=cntLt_cut h2 h3 h4
   refine CW.go ux 2 rfl (NW.then_exit (NW.go ux 7 rfl ?_))
   by_cases hll:lo<xs.length
   . obtain⟨a,rfl⟩:∃ x,A=some x:=smA hA
     obtain⟨y,hy,_⟩:=drop_at hll
     have hxy:=h4 lo y (Nat.le_refl _) hy
     refine LW.lssT ?_
     refine LW.go ux 6 rfl (LW.indexAt rfl rfl underlying85 ixs85 (by omega) (by omega) rfl ?_)
     refine LW.go ux 1 rfl (LW.loadRd (v:=.int .i64 y) rfl (hsrc.rd .t) (i64k_at hy) one3 rfl ?_)
     refine LW.go ux 2 rfl ?_
     by_cases hyx:y=x
     . refine LW.go ux 1 rfl (LW.eqlT ?_)
       refine LW.go ux 19 rfl ?_
       refine NW.ret2 rfl rfl rfl ⟨_,⟨by rw [hct,show xs.contains x=true from List.contains_iff_mem.2 (hyx ▸ List.mem_of_getElem? hy)],rfl⟩,?_⟩
       exact (Sub.one .t)
     . refine LW.go ux 1 rfl ?_
       have hnc:xs.contains x=false:=by
        rw [<- Bool.not_eq_true,List.contains_iff_mem]
        intro hm
        obtain⟨j,hj⟩:=List.mem_iff_getElem?.1 hm
        rcases Nat.lt_or_ge j lo with hjl | hjl
        . exact absurd (h3 j x hjl hj) (Int.lt_irrefl x)
        . rcases Nat.lt_or_ge lo j with hjl2 | hjl2
          . have:=hst.at hy hj hjl2;omega
          . have e:j=lo:=by omega
            subst e;rw [hy] at hj;cases hj;exact hyx rfl
       refine LW.eqlF ?_
       refine LW.go ux 7 rfl (LW.indexAt rfl rfl underlying85 ixs85 (by omega) (by omega) rfl ?_)
       refine LW.go ux 1 rfl (LW.loadRd (v:=.int .i64 y) rfl (hsrc.rd .t) (i64k_at hy) one3 rfl ?_)
       refine LW.go ux 1 rfl (LW.eT (sl_isNaN W B y) cl289 ((Take.none _)) ?_)
       refine LW.go ux 14 rfl ?_
       refine NW.ret2 rfl rfl rfl ⟨_,⟨by rw [hct,hnc],rfl⟩,?_⟩
       exact (Sub.one .t)
   . have hnc:xs.contains x=false:=by
       rw [<- Bool.not_eq_true,List.contains_iff_mem]
       intro hm
       obtain⟨j,hj⟩:=List.mem_iff_getElem?.1 hm
       have hjl:=(List.getElem?_eq_some_iff.1 hj).1
       exact absurd (h3 j x (by omega) hj) (Int.lt_irrefl x)
     refine LW.lssF ?_
     refine LW.go ux 24 rfl ?_
     refine NW.ret2 rfl rfl rfl ⟨_,⟨by rw [hct,hnc],rfl⟩,?_⟩
     exact (Sub.one .t)
theorem del_row {xs:List Int}{i:Nat}(hi:i<xs.length)(slack:List Value):(xs.map i64k++slack).take (i*1)++(xs.drop (i+1)).map i64k++(xs.map i64k++slack).drop (i*1+((xs.drop (i+1)).map i64k).length)=(xs.take i++xs.drop (i+1)).map i64k++((xs.drop (xs.length-1)).map i64k++slack):=by
 rw [Nat.mul_one,List.take_append_of_le_length (by simp;omega),<- List.map_take,List.length_map,List.length_drop,List.drop_append_of_le_length (by simp;omega),<- List.map_drop,List.map_append,show i+(xs.length-(i+1))=xs.length-1 by omega]
theorem clr_row {us bs:List Value}{n:Nat}{z:Value}(ha:us.length=n)(hb:bs.length=1)(slack:List Value):(us++(bs++slack)).take n++[z]++(us++(bs++slack)).drop (n+1)=us++([z]++slack):=by
 rw [List.take_append_of_le_length (by omega),List.take_of_length_le (by omega),List.drop_append,List.drop_eq_nil_of_le (by omega),List.nil_append,ha,Nat.add_sub_cancel_left,List.drop_append_of_le_length (by omega),List.drop_eq_nil_of_le (by omega)]
 simp
theorem sl_Delete (v:Value)(xs:List Int)(i:Nat)(ch:List Row)(ho:OwnS 3 1 v xs.length (xs.map i64k) ch)(hi:i<xs.length)(hm:xs.length<=1000000) :
   Spec prog W B 241 [v,iN i,.int .i64 ((i+1:Nat):Int)] ch (fun r post=>OwnS 3 1 r (xs.length-1) ((xs.take i++xs.drop (i+1)).map i64k) post):=by
 rcases ho with ⟨rfl,h0,_,rfl⟩ | ⟨b,cap,slack,rfl,hl,hc,hsl,rfl⟩
 . omega
 have hz:(madeCells (Value.int .i64 0).cells 1).toList=[.int .i64 0]:=madeCells_rep _ _ _ (by intro x hx;simp [Value.cells] at hx;exact hx) (by simp [Value.cells])
 have hal:((xs.take i++xs.drop (i+1)).map i64k).length=xs.length-1:=by simp;omega
 have hbl:((xs.drop (xs.length-1)).map i64k).length=1:=by simp;omega
 refine Spec.eG [[cr b 3 (xs.map i64k++slack)]] func241 ntmps241 fun w0=>?_
 refine CW.go ux 12 rfl (LW.cut (i) (i+1) (xs.length) (some _) (some _) (some _) rfl underlying85 szt3 (fun a hf=>congrArg some (hf.eval rfl)) (fun a hf=>congrArg some (hf.eval rfl)) (fun a hf=>congrArg some (hf.eval rfl)) (.inr ⟨_,rfl⟩) (.inr ⟨_,rfl⟩) (.inr ⟨_,rfl⟩) (by omega) (by omega) (by omega) (by omega) rfl ?_)
 refine LW.go ux 7 rfl (LW.eqlF ?_)
 refine LW.go ux 13 rfl (CW.drawH [] mixed ?_)
 refine AW.ts [0,1,2,3,4] 3 (TW.mv ?_)
 refine TW.mv ?_
 refine TW.take rfl (Yl.cutTo (i) rfl rfl underlying85 szt3 (by omega) (by omega)) rfl ?_
 refine TW.mv ?_
 refine TW.mv ?_
 refine TW.nil (AW.a 5 ?_)
 refine LW.cut (i+1) (xs.length) (cap) (some _) none none rfl underlying85 szt3 (fun a hf=>congrArg some (hf.eval rfl)) (fun a hf=>rfl) (fun a hf=>rfl) (.inr ⟨_,rfl⟩) (.inl ⟨rfl,rfl,rfl⟩) (.inl ⟨rfl,rfl⟩) (by omega) (by omega) (by omega) (by omega) rfl ?_
 refine LW.nil (AW.b (AW.a 6 ?_))
 refine LW.appendIn ((xs.drop (i+1)).map i64k) _ rfl rfl underlying85 underlying85 (.inr ⟨_,rfl⟩) info3 .t (fun _=>lenOf_slice _ _ _ _) (first_rd (ys:=(xs.drop (i+1)).map i64k) (sz:=1) (by by_cases h:cap=i+1;(rw [List.drop_eq_nil_of_le (by omega)];exact RdAt.nil);(rw [cutA,if_neg h,Option.map_some,Addr.add_lit];exact RdAt.row .t (fun j v hj=>by rw [List.getElem?_append_left (by have:=(List.getElem?_eq_some_iff.1 hj).1;simp at this |-;omega)];rw [List.map_drop,List.getElem?_drop] at hj;rw [<- hj];congr 1;omega))) (by simp) (by rw [cutA];split<;>simp)) (i64k_one _) (by omega) (by simp;omega) (del_row hi slack) rfl ?_
 rw [show i+(xs.length-(i+1))=xs.length-1 by omega]
 refine LW.nil (AW.b (AW.ts [7] 0 (TW.as ?_)))
 refine TW.nil (AW.d ?_)
 refine NW.go ux 7 rfl (LW.cut (xs.length-1) (xs.length) (cap) (some _) (some _) none rfl underlying85 szt3 (fun a hf=>congrArg some (hf.eval rfl)) (fun a hf=>congrArg some (hf.eval rfl)) (fun a hf=>rfl) (.inr ⟨_,rfl⟩) (.inr ⟨_,rfl⟩) (.inl ⟨rfl,rfl⟩) (by omega) (by omega) (by omega) (by omega) rfl ?_)
 rw [show cutA (some ⟨b,0,none⟩) cap (xs.length-1) 1=some ⟨b,xs.length-1,none⟩ by rw [cutA,if_neg (by omega),Option.map_some,Addr.add_lit];simp,show xs.length-(xs.length-1)=1 by omega]
 refine LW.clear ((xs.take i++xs.drop (i+1)).map i64k++([.int .i64 0]++slack)) rfl underlying85 info3 .t rfl (by intro v hv;simp [Value.cells] at hv;subst hv;rfl) (by rw [List.length_append,List.length_append,hal,hbl];omega) (by rw [hz];exact clr_row hal hbl slack) ?_
 refine LW.go ux 9 rfl ?_
 refine NW.ret1 rfl rfl ⟨_,.inr ⟨b,cap,[.int .i64 0]++slack,rfl,by rw [hal,Nat.mul_one],by omega,by simp [hsl];omega,rfl⟩,?_⟩
 exact (Sub.one .t)
end
open Go.RowKit
def LnR:List Value->List (List Int)->List (List Row)->Prop
 | [],[],[]=>True
 | v::vs,l::ls,c::cs=>OwnS 3 1 v l.length (l.map i64k) c/\LnR vs ls cs
 | _,_,_=>False
theorem LnR.length:∀ {vs:List Value} {ls:List (List Int)} {cs:List (List Row)},LnR vs ls cs->vs.length=ls.length/\cs.length=ls.length
 | [],[],[],_=>⟨rfl,rfl⟩
 | [],_::_,_,h=>h.elim
 | [],[],_::_,h=>h.elim
 | _::_,[],_,h=>h.elim
 | _::_,_::_,[],h=>h.elim
 | _::_,_::_,_::_,⟨_,h⟩=>by have:=LnR.length h;simp [this.1,this.2]
theorem LnR.get:∀ {vs:List Value} {ls:List (List Int)} {cs:List (List Row)} {i:Nat} {l:List Int},LnR vs ls cs->ls[i]?=some l ->
  ∃ v c,vs[i]?=some v/\cs[i]?=some c/\OwnS 3 1 v l.length (l.map i64k) c/\∀ v' l' c',OwnS 3 1 v' l'.length (l'.map i64k) c'->LnR (vs.set i v') (ls.set i l') (cs.set i c')
 | [],[],[],_,_,_,hi=>by cases hi
 | [],_::_,_,_,_,h,_=>h.elim
 | [],[],_::_,_,_,h,_=>h.elim
 | _::_,[],_,_,_,h,_=>h.elim
 | _::_,_::_,[],_,_,h,_=>h.elim
 | v::vs,l0::ls,c::cs,0,l,⟨h1,h2⟩,hi=>by
  simp at hi;subst hi
  exact⟨v,c,rfl,rfl,h1,fun v' l' c' h=>⟨h,h2⟩⟩
 | v::vs,l0::ls,c::cs,i+1,l,⟨h1,h2⟩,hi=>by
  obtain⟨v1,c1,a1,a2,a3,a4⟩:=LnR.get h2 (by simpa using hi)
  exact⟨v1,c1,by simpa using a1,by simpa using a2,a3,fun v' l' c' h=>⟨h1,a4 v' l' c' h⟩⟩
def NodeR (W:World)(B:Nat)(im:List Row)(b:Nat)(nd:NodeP)(c:List Row):Prop:=
 ∃ vv vs cs,VecAt W B im vv nd.v/\LnR vs nd.ln cs/\nd.ln.length=5/\c=[cr b 281 (vv::iN nd.lv::vs)]++cs.flatten
theorem NodeR.more {W:World}{B:Nat}{im im':List Row}{b:Nat}{nd:NodeP}{c:List Row}(h:NodeR W B im b nd c)(hx:∀ x∈im,x∈im'):NodeR W B im' b nd c:=by
 obtain⟨vv,vs,cs,h1,h2⟩:=h
 exact⟨vv,vs,cs,SlAt.more h1 hx,h2⟩
def NodesR (W:World)(B:Nat)(im:List Row):List (Int×Nat)->GraP->List (List Row)->Prop
 | [],[],[]=>True
 | e::es,x::g,c::cs=>e.1=x.1/\NodeR W B im e.2 x.2 c/\NodesR W B im es g cs
 | _,_,_=>False
def esV (es:List (Int×Nat)):List (Int×Value):=es.map fun x=>(x.1,ptr x.2)
section
variable {W:World}{B:Nat}{im im':List Row}
theorem NodesR.more (hx:∀ x∈im,x∈im'):∀ {es:List (Int×Nat)} {g:GraP} {cs:List (List Row)},NodesR W B im es g cs->NodesR W B im' es g cs
 | [],[],[],_=>trivial
 | [],_::_,_,h=>h.elim
 | [],[],_::_,h=>h.elim
 | _::_,[],_,h=>h.elim
 | _::_,_::_,[],h=>h.elim
 | _::_,_::_,_::_,⟨h1,h2,h3⟩=>⟨h1,h2.more hx,NodesR.more hx h3⟩
theorem NodesR.keys:∀ {es:List (Int×Nat)} {g:GraP} {cs:List (List Row)},NodesR W B im es g cs->(esV es).map (·.1)=g.map (·.1)/\cs.length=g.length
 | [],[],[],_=>⟨rfl,rfl⟩
 | [],_::_,_,h=>h.elim
 | [],[],_::_,h=>h.elim
 | _::_,[],_,h=>h.elim
 | _::_,_::_,[],h=>h.elim
 | _::_,_::_,_::_,⟨h1,_,h3⟩=>by have:=NodesR.keys h3;simp only [esV,List.map_cons,List.length_cons] at this |-;exact⟨by rw [h1,this.1],by rw [this.2]⟩
theorem NodesR.get {id:Int}{nd:NodeP}:∀ {es:List (Int×Nat)} {g:GraP} {cs:List (List Row)},NodesR W B im es g cs->aget g id=some nd ->
  ∃ i b c,mget (esV es) id=some (ptr b)/\cs[i]?=some c/\NodeR W B im b nd c/\∀ nd' c',NodeR W B im b nd' c'->NodesR W B im es (aset g id nd') (cs.set i c')
 | [],[],[],_,h=>by cases h
 | [],_::_,_,h,_=>h.elim
 | [],[],_::_,h,_=>h.elim
 | _::_,[],_,h,_=>h.elim
 | _::_,_::_,[],h,_=>h.elim
 | (a,b)::es,(a',x)::g,c::cs,⟨h1,h2,h3⟩,ha=>by
  simp only at h1 h2
  subst h1
  simp only [aget] at ha
  simp only [esV,List.map_cons,mget]
  by_cases he:a=id
  . rw [if_pos he] at ha;cases ha
    refine⟨0,b,c,by rw [if_pos he],rfl,h2,fun nd' c' h=>?_⟩
    simp only [aset,if_pos he]
    exact⟨rfl,h,h3⟩
  . rw [if_neg he] at ha
    obtain⟨i,b',c',a1,a2,a3,a4⟩:=NodesR.get h3 ha
    refine⟨i+1,b',c',by rw [if_neg he];exact a1,by simpa using a2,a3,fun nd' c'' h=>?_⟩
    simp only [aset,if_neg he]
    exact⟨rfl,h2,a4 nd' c'' h⟩
theorem NodesR.miss {id:Int}:∀ {es:List (Int×Nat)} {g:GraP} {cs:List (List Row)},NodesR W B im es g cs->aget g id=none->mget (esV es) id=none:=fun {es g cs} h ha=>by
 refine mget_none fun x hx he=>?_
 have h1:x.1∈(esV es).map (·.1):=List.mem_map.2 ⟨x,hx,rfl⟩
 rw [h.keys.1,he] at h1
 exact aget_none.1 ha h1
end
structure GraOk (g:GraP):Prop where
 nd:(g.map (·.1)).Nodup
 ids:∀ x∈g,IdOk x.1
 vok:∀ x∈g,VOk x.2.v/\x.2.lv<=4/\x.2.ln.length=5
 srt:∀ x∈g,∀ l∈x.2.ln,Strict l
 mem:∀ x∈g,∀ l∈x.2.ln,∀ y∈l,∃ nd,aget g y=some nd
theorem GraOk.len {g:GraP}(h:GraOk g):g.length<=1000:=ids_len h.nd h.ids
theorem strict_len {l:List Int}(h:Strict l)(hi:∀ y∈l,IdOk y):l.length<=1000:=by
 have hn:l.Nodup:=by
  rw [List.nodup_iff_pairwise_ne]
  exact h.imp fun h=>Int.ne_of_lt h
 have:=ids_len (l:=l.map fun y=>(y,())) (by rw [List.map_map];simpa [Function.comp_def] using hn) (by intro x hx;obtain⟨y,hy,rfl⟩:=List.mem_map.1 hx;exact hi y hy)
 simpa using this
theorem GraOk.at {g:GraP}(h:GraOk g){id:Int}{nd:NodeP}(ha:aget g id=some nd):IdOk id/\VOk nd.v/\nd.lv<=4/\nd.ln.length=5/\(∀ l∈nd.ln,Strict l/\l.length<=1000/\∀ y∈l,∃ nd,aget g y=some nd):=by
 have hm:=aget_mem ha
 obtain⟨h1,h2,h3⟩:=h.vok _ hm
 refine⟨h.ids _ hm,h1,h2,h3,fun l hl=>⟨h.srt _ hm l hl,strict_len (h.srt _ hm l hl) fun y hy=>?_,h.mem _ hm l hl⟩⟩
 obtain⟨nd',hn⟩:=h.mem _ hm l hl y hy
 exact h.ids _ (aget_mem hn)
theorem GraOk.lnk {g:GraP}(h:GraOk g){id:Int}{nd:NodeP}(ha:aget g id=some nd){lv:Nat}(hlv:lv<=4):∃ l,nd.ln[lv]?=some l/\g.lnk id lv=l/\Strict l/\l.length<=1000/\∀ y∈l,∃ nd,aget g y=some nd:=by
 obtain⟨_,_,_,h5,h6⟩:=h.at ha
 obtain⟨l,hl,_⟩:=drop_at (xs:=nd.ln) (i:=lv) (by omega)
 obtain⟨a,b,c⟩:=h6 l (List.mem_of_getElem? hl)
 refine⟨l,hl,?_,a,b,c⟩
 unfold GraP.lnk
 rw [ha]
 simp only [List.getD_eq_getElem?_getD,hl,Option.getD_some]
def GraR (W:World)(B:Nat)(im:List Row)(p:Nat)(m:Int)(g:GraP)(rows:List Row):Prop:=
 ∃ mv chm es cs,OwnMap i64k mv (esV es) chm/\NodesR W B im es g cs/\rows=[cr p 284 [.int .i64 m,mv]]++(chm++cs.flatten)/\GraOk g
theorem GraR.more {W:World}{B:Nat}{im im':List Row}{p:Nat}{m:Int}{g:GraP}{rows:List Row}(h:GraR W B im p m g rows)(hx:∀ x∈im,x∈im'):GraR W B im' p m g rows:=by
 obtain⟨mv,chm,es,cs,h1,h2,h3⟩:=h
 exact⟨mv,chm,es,cs,h1,h2.more hx,h3⟩
theorem GraR.ok {W:World}{B:Nat}{im:List Row}{p:Nat}{m:Int}{g:GraP}{rows:List Row}(h:GraR W B im p m g rows):GraOk g:=by
 obtain⟨mv,chm,es,cs,h1,h2,h3,h4⟩:=h
 exact h4
section
variable {P:Program}{n:Nat}{c:Ctx}{Q:Exit->Act->World->Prop}{e:Env}{h h1 h2 h3 h4 h5:Heap}{ops:Array Oper}{rest:List Oper}
theorem gopen_perm {rp rb:Row}{chm flat L R:List Row}{h:Heap}(hp:(([rb]++L)++R).Perm flat):(List.flatten ([rp]::chm::[rb]::L::R::h)).Perm (List.flatten (([rp]++(chm++flat))::h)):=by
 simp only [List.flatten_cons]
 rw [List.append_assoc,List.append_assoc]
 refine List.Perm.append_left _ (List.Perm.append_left _ ?_)
 rw [<- List.append_assoc,<- List.append_assoc]
 exact hp.append_right _
theorem CW.gopen {x:Code}{rp rb:Row}{chm flat L R:List Row}(hp:(([rb]++L)++R).Perm flat)(k:CW P n c x Q e ([rp]::chm::[rb]::L::R::h)):CW P n c x Q e (([rp]++(chm++flat))::h):=k.heap (Sub.of_perm (gopen_perm hp))
theorem gclose_perm {rp rb:Row}{chm flat L R:List Row}(t1:Take [rp] h h1)(t2:Take chm h1 h2)(t3:Take [rb] h2 h3)(t4:Take L h3 h4)(t5:Take R h4 h5)(hp:(([rb]++L)++R).Perm flat):(List.flatten (([rp]++(chm++flat))::h5)).Perm h.flatten:=by
 refine (gopen_perm (h:=h5) hp).symm.trans ?_
 simp only [List.flatten_cons]
 unfold Take at *
 refine List.Perm.trans ?_ t1
 refine List.Perm.append_left _ (List.Perm.trans ?_ t2)
 refine List.Perm.append_left _ (List.Perm.trans ?_ t3)
 refine List.Perm.append_left _ (List.Perm.trans ?_ t4)
 exact List.Perm.append_left _ t5
theorem NW.gclose {x:Exit}{rp rb:Row}{chm flat L R:List Row}(t1:Take [rp] h h1)(t2:Take chm h1 h2)(t3:Take [rb] h2 h3)(t4:Take L h3 h4)(t5:Take R h4 h5)(hp:(([rb]++L)++R).Perm flat)(k:NW n c x Q e (([rp]++(chm++flat))::h5)):NW n c x Q e h:=k.heap' (Sub.of_perm (gclose_perm t1 t2 t3 t4 t5 hp))
theorem LW.gclose {rp rb:Row}{chm flat L R:List Row}(t1:Take [rp] h h1)(t2:Take chm h1 h2)(t3:Take [rb] h2 h3)(t4:Take L h3 h4)(t5:Take R h4 h5)(hp:(([rb]++L)++R).Perm flat)(k:LW P n c ops Q rest e (([rp]++(chm++flat))::h5)):LW P n c ops Q rest e h:=k.heap (Sub.of_perm (gclose_perm t1 t2 t3 t4 t5 hp))
theorem CW.gclose {x:Code}{rp rb:Row}{chm flat L R:List Row}(t1:Take [rp] h h1)(t2:Take chm h1 h2)(t3:Take [rb] h2 h3)(t4:Take L h3 h4)(t5:Take R h4 h5)(hp:(([rb]++L)++R).Perm flat)(k:CW P n c x Q e (([rp]++(chm++flat))::h5)):CW P n c x Q e h:=k.heap (Sub.of_perm (gclose_perm t1 t2 t3 t4 t5 hp))
end
theorem relOf {κ α:Type}[DecidableEq κ]:∀ {es:List (κ×Value)} {l:List (κ×α)},es.map (·.1)=l.map (·.1)->RelM (fun _ _=>True) es l
 | [],[],_=>trivial
 | [],_::_,h=>by cases h
 | _::_,[],h=>by cases h
 | _::_,_::_,h=>by simp only [List.map_cons,List.cons.injEq] at h;exact⟨h.1,trivial,relOf h.2⟩
section
variable (W:World)(B:Nat)
theorem gra_New (m:Int)(hm:MetOk m):Spec prog W B 164 [.int .i64 m] [] (fun r post=>∃ p,r=ptr p/\∀ im,GraR W B im p m [] post):=by
 have hk:(decide (m=1) || decide (m=2))=true:=by rcases hm with rfl | rfl<;>rfl
 refine Spec.eG [] func164 ntmps164 fun w0=>?_
 refine CW.go ux 9 rfl (LW.eT (metric_Known W B m) cl153 ((Take.none _)) ?_)
 rw [hk]
 refine LW.go ux 9 rfl (LW.mapMakeG i64k rfl ?_)
 intro mv chm hom;obtain⟨bm,hbm⟩:=hom.shape;subst hbm
 refine LW.bd [_,_] (#[.int .i64 m,.map (some bm)]) ?_
 refine LW.bx ?_
 intro bb9
 refine LW.go ux 4 rfl ?_
 refine NW.ret1 rfl rfl ⟨_,⟨bb9,rfl,fun im=>⟨.map (some bm),chm,[],[],hom,trivial,(rfl:[cr bb9 284 [.int .i64 m,.map (some bm)]]++(chm++([]:List (List Row)).flatten)=_),⟨by simp,fun x hx=>(by cases hx),fun x hx=>(by cases hx),fun x hx=>(by cases hx),fun x hx=>(by cases hx)⟩⟩⟩,?_⟩
 rw [List.flatten_nil,List.append_nil];exact .s2
theorem gra_most (lv:Nat):Spec prog W B 237 [iN lv] [] (fun r post=>r=.int .i64 (mostP lv:Int)/\post=[]):=by
 by_cases h:lv=0
 . subst h
   refine Spec.eG [] func237 ntmps237 fun w0=>?_
   refine CW.go ux 9 rfl (LW.eqlT ?_)
   refine LW.go ux 10 rfl ?_
   refine NW.r1 ⟨_,⟨rfl,rfl⟩,?_⟩
   exact Sub.nil _
 . have hm:mostP lv=4:=by unfold mostP;rw [if_neg h]
   rw [hm]
   refine Spec.eG [] func237 ntmps237 fun w0=>?_
   refine CW.go ux 9 rfl (LW.eqlF ?_)
   refine LW.go ux 11 rfl ?_
   refine NW.r1 ⟨_,⟨rfl,rfl⟩,?_⟩
   exact Sub.nil _
theorem gra_ids (rows:List Row)(v:Value)(hs:List (Int×Int))(hv:SlAt W B rows v hs.length (hitsC hs) 2)(hm:hs.length<=100000) :
   Spec prog W B 221 [v] rows (fun r post=>∃ ch,OwnS 3 1 r hs.length ((hs.map (·.1)).map i64k) ch/\post=ch++rows):=by
 obtain⟨A,cp,rfl,hcp,hl,hsrc,hA⟩:=hv
 refine Spec.eG [rows] func221 ntmps221 fun w0=>?_
 refine CW.go ux 19 rfl ?_
 refine CW.loopG (fun st:Nat×Value×List Row=>[(8,iN st.1),(7,iN hs.length),(6,.slice A hs.length cp),(3,st.2.1)]) (fun st=>[st.2.2,rows]) (fun st=>st.1<=hs.length/\OwnS 3 1 st.2.1 st.1 (((hs.map (·.1)).take st.1).map i64k) st.2.2) (fun st=>hs.length-st.1) (0,.slice none 0 0,[]) (by exact⟨Nat.zero_le _,OwnS.nil⟩) rfl (by repeat' constructor) ?_
 rintro⟨i,v,ch⟩ ⟨hi,ho⟩;dsimp only at hi ho |-
 refine CW.go ux 2 rfl (LW.lss (decide ((i:Int)<(hs.length:Int))) rfl rfl (rfl) rfl ?_)
 refine LW.go ux 3 rfl ?_
 refine CW.cond rfl (fun hc9=>?_) (fun hc9=>?_)
 . have hin:i<hs.length:=oT hc9
   obtain⟨a,rfl⟩:∃ x,A=some x:=smA hA
   obtain⟨x,hxi,hxd⟩:=drop_at hin
   refine CW.go ux 6 rfl (LW.indexAt rfl rfl underlying37 ixs37 (by omega) (by omega) rfl ?_)
   refine LW.loadAggRd (hitC x) rfl (hsrc.rd .t) (Nat.zero_lt_succ 1) (hitsC_at hxi) underlying72 rfl szt72 rfl ?_
   refine LW.alloc zero72 rfl ?_
   intro ba5
   refine LW.sA (hitC x) szt72 (hitC_one x) ?_
   refine LW.go ux 5 rfl (LW.load (v:=.int .i64 x.1) rfl .t (rfl) one3 rfl ?_)
   refine LW.bs [_] underlying85 info3 ?_
   intro bs15
   refine LW.append ([.int .i64 x.1]) rfl rfl underlying85 underlying85 (.inr ⟨_,rfl⟩) info3 rfl (ho) .t (fun _=>by obtain⟨A7,cp7,he7,_⟩:=ho.val;exact lenOf_slice _ _ _ _) (first_rd (RdAt.row .t (fun j v hj=>by simpa using hj)) rfl (fun h=>by cases h)) (rfl) (by intro u hu;simp at hu;subst hu;rfl) (by omega) (by omega) rfl ?_
   intro v' ch' ho'
   refine LW.go ux 5 rfl (LW.ad ((i+1:Int)) ?_)
   exact LW.go ux 2 rfl (NW.mG ((i+1,v',ch')) (by exact⟨⟨by omega,by dsimp only;rw [List.take_add_one,List.getElem?_map,hxi,List.map_append];exact ho'⟩,by dsimp only;omega⟩))
 . have hin:i=hs.length:=oF hc9
   rw [hin,List.take_of_length_le (by simp)] at ho
   refine CW.go ux 2 rfl (NW.then_exit (NW.go ux 9 rfl ?_))
   refine NW.ret1 rfl rfl ⟨_,⟨ch,by rw [<- hin];rw [<- hin] at ho;exact ho,rfl⟩,?_⟩
   exact .s2
theorem gra_hit (p:Nat)(m:Int)(g:GraP)(rows im:List Row)(qv:Value)(q:List Int)(id:Int)(nd:NodeP)(hg:GraR W B im p m g rows)(hqv:VecAt W B im qv q)(hq:VOk q)(ha:aget g id=some nd) :
  Spec prog W B 147 [ptr p,qv,.int .i64 id] (rows++im) (fun r post=>r=hitV (g.hit m q id)/\post=rows++im):=by
 obtain⟨mv,chm,es,cs,hom,hns,hrows,hok⟩:=hg
 obtain⟨i,b,c,hmg,hci,⟨vv,vs,lcs,hvv,hln,h5,rfl⟩,_⟩:=hns.get ha
 have hvo:=(hok.at ha).2.1
 have hh:g.hit m q id=(id,scoreL m q nd.v):=by unfold GraP.hit GraP.vec;rw [ha]
 rw [hh]
 refine Spec.eG [rows,im] func147 ntmps147 fun w0=>?_
 refine CW.go ux 2 rfl (LW.alloc zero72 rfl ?_)
 intro ba6
 refine LW.go ux 3 rfl ?_
 subst hrows;refine CW.front (p:=[cr p 284 [.int .i64 m,mv]]++(chm++cs.flatten)) .t (CW.gopen (flat_get hci) ?_)
 refine CW.drawH [cr p 284 [.int .i64 m,mv],cr b 281 (vv::iN nd.lv::vs)] mixed ?_
 refine AW.ts [0,1,2,3,4,5,6,7,8,9,10] 7 (TW.mv ?_)
 refine TW.mv ?_
 refine TW.np ?_
 refine TW.fa fa284_0 ?_
 refine TW.ld one3 ?_
 refine TW.mv ?_
 refine TW.mv ?_
 refine TW.np ?_
 refine TW.fa fa284_1 ?_
 refine TW.ld one282 ?_
 refine TW.mv ?_
 refine TW.nil (AW.a 11 ?_)
 refine LW.mapHit1 (u:=_) rfl rfl keyInt (hom) .t underlying282 underlying3 zero277 (hmg) rfl ?_
 refine LW.nil (AW.b (AW.ts [12,13,14] 3 (TW.np ?_)))
 refine TW.fa fa281_0 ?_
 refine TW.ld one25 ?_
 refine TW.nil (AW.a 15 ?_)
 refine LW.eG (metric_Score W B m im qv vv q nd.v hqv hvv (by have:=hq.1;omega) hq.2 hvo.2) cl140 ?_
 refine LW.nil (AW.b (AW.ts [16] 1 (TW.take rfl (Yl.build (vs:=[_,_]) (#[.int .i64 id,.int .i64 (scoreL m q nd.v)]) ⟨rfl,rfl,trivial⟩ (by kernel_rfl)) rfl ?_)))
 refine TW.nil (AW.a 17 ?_)
 refine LW.sA (hitC (id,scoreL m q nd.v)) szt72 (hitC_one (id,scoreL m q nd.v)) ?_
 refine LW.nil (AW.b (AW.d ?_))
 refine NW.gclose (rp:=cr p 284 [.int .i64 m,mv]) (chm:=chm) .t .t .t .t .t (flat_get hci) ?_
 refine NW.go ux 2 rfl ?_
 refine NW.res1 rfl (.cell (hitC (id,scoreL m q nd.v)) rfl .t zd underlying72 rfl szt72) ⟨_,⟨rfl,rfl⟩,?_⟩
 exact .s2
theorem gra_Ids (p:Nat)(m:Int)(g:GraP)(rows im:List Row)(hg:GraR W B im p m g rows) :
  Spec prog W B 220 [ptr p] rows (fun r post=>∃ ch,OwnS 3 1 r g.length ((sI (g.map (·.1))).map i64k) ch/\post=ch++rows):=by
 obtain⟨mv,chm,es,cs,hom,hns,rfl,hok⟩:=hg
 have hmr:MapR i64k (fun _ _=>True) mv g chm:=⟨esV es,hom,relOf hns.keys.1⟩
 refine Spec.eG [[cr p 284 [.int .i64 m,mv]],chm,cs.flatten] func220 ntmps220 fun w0=>?_
 refine CW.go ux 9 rfl (LW.pn underlying158 ?_)
 refine LW.go ux 10 rfl (LW.ld one282 ?_)
 refine LW.cT (keys_274 W B mv (map_cells hom)) cl274 ((Take.none _)) ?_
 rintro _ _ ⟨bx,rfl,rfl⟩
 refine LW.cT (sk_274 W B bx _ mv g chm hmr (fun x hx=>hok.ids x hx)) cl150 .n2 ?_
 rintro r _ ⟨c2,ho,rfl⟩;refine LW.splitA (LW.splitB ?_)
 refine LW.go ux 4 rfl ?_
 refine NW.r1 ⟨_,⟨c2,ho,rfl⟩,?_⟩
 exact .s4
def eStep (g:GraP)(st:Int×Int)(x:Int):Int×Int:=match aget g x with
 | some nd=>if (nd.lv:Int)>st.2 then (x,nd.lv) else st
 | none=>st
theorem entryGo_fold (g:GraP):∀ (l:List Int) (st:Int×Int),entryGo g l st.1 st.2=l.foldl (eStep g) st
 | [],st=>rfl
 | x::r,st=>by
  rw [List.foldl_cons,<- entryGo_fold g r]
  simp only [eStep]
  rw [entryGo]
  cases aget g x with
  | none=>rfl
  | some nd=>simp only;split<;>rfl
theorem gra_Entry (p:Nat)(m:Int)(g:GraP)(rows im:List Row)(hg:GraR W B im p m g rows) :
   Spec prog W B 145 [ptr p] rows (fun r post=>r=.tuple #[.int .i64 (entryP g).1,.int .i64 (entryP g).2]/\post=rows):=by
 have hgr:=hg
 obtain⟨mv,chm,es,cs,hom,hns,hrows,hok⟩:=hg
 have hgl:=hok.len
 refine Spec.eG [rows] func145 ntmps145 fun w0=>?_
 refine CW.go ux 15 rfl (LW.cG (gra_Ids W B p m g rows im hgr) cl220 ?_)
 rintro r1 _ ⟨c1,ho1,rfl⟩;refine LW.splitA ?_
 obtain⟨A1,cp1,rfl,hA1,hc1⟩:=ho1.val
 have hs1:=ho1.src (W:=W) (B:=B)
 refine LW.go ux 5 rfl ?_
 refine CW.loopG (fun st:Nat×Int×Int=>[(9,iN st.1),(8,iN g.length),(7,.slice A1 g.length cp1),(2,.int .i64 st.2.1),(3,.int .i64 st.2.2),(0,ptr p)]) (fun _=>[c1,rows]) (fun st=>st.1<=g.length/\((sI (g.map (·.1))).take st.1).foldl (eStep g) (0,-1)=st.2) (fun st=>g.length-st.1) (0,0,-1) (by exact⟨Nat.zero_le _,rfl⟩) rfl (by repeat' constructor) ?_
 rintro⟨i,eid,elv⟩ ⟨hi,hx⟩;dsimp only at hi hx |-
 refine CW.go ux 2 rfl (LW.lss (decide ((i:Int)<(g.length:Int))) rfl rfl (rfl) rfl ?_)
 refine LW.go ux 3 rfl ?_
 refine CW.cond rfl (fun hc10=>?_) (fun hc10=>?_)
 . have hin:i<g.length:=oT hc10
   obtain⟨id,nd,hid,hget⟩:=sI_at hin
   obtain⟨a1,rfl⟩:∃ x,A1=some x:=smA hA1
   obtain⟨k,b,c,hmg,hci,⟨vv,vs,lcs,hvv,hln,h5,rfl⟩,_⟩:=hns.get hget
   have hsn:((sI (g.map (·.1))).take (i+1)).foldl (eStep g) (0,-1)=if (nd.lv:Int)>elv then (id,(nd.lv:Int)) else (eid,elv):=by rw [List.take_add_one,hid,List.foldl_append,hx];simp [eStep,hget]
   refine CW.go ux 6 rfl (LW.indexAt rfl rfl underlying85 ixs85 (by omega) (by omega) rfl ?_)
   refine LW.loadRd (v:=.int .i64 id) rfl (hs1.rd .t) (i64k_at hid) one3 rfl ?_
   refine LW.go ux 4 rfl ?_
   subst hrows;refine CW.front (p:=[cr p 284 [.int .i64 m,mv]]++(chm++cs.flatten)) .t (CW.gopen (flat_get hci) ?_)
   refine CW.go ux 4 rfl (LW.ld one282 ?_)
   refine LW.go ux 1 rfl (LW.mapHit1 (u:=_) rfl rfl keyInt (hom) .t underlying282 underlying3 zero277 (hmg) rfl ?_)
   refine LW.go ux 2 rfl (LW.ld one3 ?_)
   refine LW.go ux 1 rfl (LW.gtr (decide ((nd.lv:Int)>elv)) rfl rfl (rfl) rfl ?_)
   refine LW.go ux 2 rfl ?_
   refine CW.cond rfl (fun hc23=>?_) (fun hc23=>?_)
   . rw [if_pos (of_decide_eq_true hc23)] at hsn
     refine CW.drawH [cr p 284 [.int .i64 m,mv],cr b 281 (vv::iN nd.lv::vs)] mixed ?_
     refine AW.ts [0,1,2,3,4,5,10] 5 (TW.mv ?_)
     refine TW.mv ?_
     refine TW.np ?_
     refine TW.fa fa284_1 ?_
     refine TW.ld one282 ?_
     refine TW.mv ?_
     refine TW.as ?_
     refine TW.nil (AW.a 6 ?_)
     refine LW.mapHit1 (u:=_) rfl rfl keyInt (hom) .t underlying282 underlying3 zero277 (hmg) rfl ?_
     refine LW.nil (AW.b (AW.ts [7,8,9,11] 0 (TW.np ?_)))
     refine TW.fa fa281_1 ?_
     refine TW.ld one3 ?_
     refine TW.as ?_
     refine TW.nil (AW.d ?_)
     refine NW.go ux 2 rfl (CW.gclose (rp:=cr p 284 [.int .i64 m,mv]) (chm:=chm) .t .t .t .t .t (flat_get hci) ?_)
     refine CW.go ux 1 rfl (LW.ad ((i+1:Int)) ?_)
     exact LW.go ux 2 rfl (NW.mG ((i+1,id,(nd.lv:Int))) (by exact⟨⟨by omega,hsn⟩,by dsimp only;omega⟩))
   . rw [if_neg (of_decide_eq_false hc23)] at hsn
     refine CW.go ux 3 rfl (CW.gclose (rp:=cr p 284 [.int .i64 m,mv]) (chm:=chm) .t .t .t .t .t (flat_get hci) ?_)
     refine CW.go ux 1 rfl (LW.ad ((i+1:Int)) ?_)
     exact LW.go ux 2 rfl (NW.mG ((i+1,eid,elv)) (by exact⟨⟨by omega,hsn⟩,by dsimp only;omega⟩))
 . have hin:i=g.length:=oF hc10
   have hen:entryP g=(eid,elv):=by rw [hin,List.take_of_length_le (by rw [sI_len];exact Nat.le_refl _)] at hx;rw [<- hx];exact entryGo_fold g _ (0,-1)
   refine CW.go ux 2 rfl (NW.then_exit (NW.go ux 11 rfl ?_))
   refine NW.ret2 rfl rfl rfl ⟨_,⟨by rw [hen],rfl⟩,?_⟩
   exact (Sub.one .t)
end
end Go.Proofs.YtnlpccoigflheaaGreatDoor
