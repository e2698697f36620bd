/- Fail1 Fail2 Begun Row Open TLay MapX -/
import Derived.Test.YtnlpccoigflheaaGreatDoorErrF
import Derived.Test.YtnlpccoigflheaaGreatDoorBin1
import Derived.Test.YtnlpccoigflheaaGreatDoorRows
import Derived.Test.YtnlpccoigflheaaGreatDoorTie
import Derived.ProofKit
import Derived.LaidHandle
import Derived.ChangeVars
import Derived.LaidMore
import Derived.OpenShut
import Derived.Stop.Joined
import Derived.Deep.Grids
import Derived.Shelf.SlIter.Nil
import Derived.Shelf.SlIterI.Nil
import Derived.Shelf.SlIter.Sorted
import Derived.Shelf.SlIterI.Sorted
import Derived.Shelf.SortM.Plain
import Derived.Shelf.SortM.SortNone
import Derived.Shelf.SlSortCmp.WholeK
import Derived.Test.YtnlpccoigflheaaGreatDoorProg
import Derived.Test.YtnlpccoigflheaaGreatDoorDev2
import Derived.MapKept
import Derived.Carry
import Derived.Test.YtnlpccoigflheaaGreatDoorFac
namespace Go.Proofs.YtnlpccoigflheaaGreatDoor
open Go.RowKit Go.Extern
open Go.Proofs.Tryz
def Tul:Tbl:=⟨[(149,1,1)],[52,74,147],[65,223]⟩
theorem ul:Tul.Ok Tryz.prog:=.of (⟨⟨_,Tryz.underlying65⟩,⟨_,Tryz.underlying223⟩,trivial⟩)
section
variable (W:World)(B:Nat)
theorem rvalCells_one (t b k:Nat):∀ v∈[hd t,ptr b,.int .u64 (k:Int)],v.oneCell'=true:=by
 intro v hv
 simp only [hd,List.mem_cons,List.not_mem_nil,or_false] at hv
 rcases hv with rfl | rfl | rfl<;>rfl
theorem at_Unwrap (p:Nat)(s:List UInt8)(v:Value)(rows:List Row)(hm:cr p 149 [strV s,v]∈rows) :
  Spec prog W B 424 [ptr p] rows (fun r post=>r=v/\post=rows):=by
 refine Spec.eG [rows] func424 ntmps424 fun w0=>?_
 refine CW.go ul 10 rfl (LW.loadIn rfl (by simpa using hm) rfl one43 rfl ?_)
 refine LW.go ul 4 rfl ?_
 refine NW.r1 ⟨_,⟨rfl,rfl⟩,?_⟩
 exact Sub.one .t
theorem errors_as (l:List (Nat×List UInt8))(c:Int)(t a:Nat)(old:Value) :
   Spec prog W B 58 [chainV l (eno c),.iface 74 (ptr t),rval 74 a 150,rty 52]
    ([cr t 52 [old]]++([cr a 74 [ptr t]]++chainR l (eno c)))
    (fun r post=>r=.bool true/\post=[cr t 52 [.int .i64 c]]++chainR l (eno c)):=by
 refine Spec.eG [[cr t 52 [old]],[cr a 74 [ptr t]],chainR l (eno c)] func58 ntmps58 fun w0=>?_
 refine CW.go ul 2 rfl (LW.bx ?_)
 intro bb6
 refine LW.go ul 4 rfl ?_
 refine CW.loopG (fun r:List (Nat×List UInt8)=>[(0,chainV r (eno c)),(1,.iface 74 (ptr t)),(3,rty 52),(6,ptr bb6)]) (fun _=>[[cr bb6 126 [hd 74,ptr a,.int .u64 150]],[cr t 52 [old]],[cr a 74 [ptr t]],chainR l (eno c)]) (fun r=>∃ q,l=q++r) List.length l (by exact⟨[],rfl⟩) rfl (by repeat' constructor) ?_
 rintro r ⟨q,hq⟩
 refine CW.go ul 4 rfl ?_
 rcases r with _ | ⟨⟨p,s⟩,r⟩
 . refine LW.go ul 1 rfl (LW.ext (args:=[eno c]) (rty 52) xTypeOf ⟨rfl,trivial⟩ (fun w _=>typeOfE w c) rfl ?_)
   refine LW.go ul 1 rfl (LW.invExt (args:=[rty 52]) (.bool true) rfl (mAss _) xAss ⟨rfl,trivial⟩ (fun w _=>assE w) rfl ?_)
   refine LW.go ul 5 rfl (LW.loadAgg ([hd 74,ptr a,.int .u64 150]) rfl .t (by intro j v hj;rw [Nat.zero_add];exact hj) underlying126 rfl (sze szt126) rfl ?_)
   refine LW.ext (args:=[rval 74 a 150]) (rval 52 t 386) xVElem ⟨rfl,trivial⟩ (fun w s=>elemVP w a t (s.cell .t rfl)) rfl ?_
   refine LW.go ul 1 rfl ?_
   refine LW.extAlloc (args:=[eno c]) (fun b=>rval 52 b 130) 52 [.int .i64 c] xValueOf ⟨rfl,trivial⟩ (fun w _=>valueOfE w c) rfl (fun b23=>?_)
   refine LW.extSet (args:=[rval 52 t 386,rval 52 b23 130]) (.tuple #[]) ([cr t 52 [.int .i64 c]]::[cr b23 52 [.int .i64 c]]::[cr bb6 126 [hd 74,ptr a,.int .u64 150]]::[cr a 74 [ptr t]]::[chainR l (eno c)]) xSet ⟨rfl,rfl,trivial⟩ (fun w s=>⟨_,setE w t b23 c old (s.cell .t rfl) (s.cell .t rfl) (frozen_of_row w t 0 _ 52 (s.row (r:=cr t 52 [old]) .t)),s.setCell (b:=t) (i:=0) (t:=52) (l:=[old]) (v:=.int .i64 c) .t⟩) rfl ?_
   refine LW.go ul 10 rfl (NW.then_ret ?_)
   refine NW.go ul 1 rfl ?_
   refine NW.r1 ⟨_,⟨rfl,rfl⟩,?_⟩
   exact Sub.take (p:=[_]) .t (Sub.one .t)
 . refine LW.go ul 1 rfl (LW.ext (args:=[.iface 147 (ptr p)]) (rty 147) xTypeOf ⟨rfl,trivial⟩ (fun w _=>typeOfA w _) rfl ?_)
   refine LW.go ul 1 rfl (LW.invExt (args:=[rty 52]) (.bool false) rfl (mAss _) xAss ⟨rfl,trivial⟩ (fun w _=>assA w) rfl ?_)
   refine LW.go ul 9 rfl (LW.tassert rfl (fun w=>noAsA _ _ w) rfl ?_)
   refine LW.go ul 28 rfl (LW.tassert rfl (fun w=>unwA _ _ w) rfl ?_)
   refine LW.go ul 13 rfl (LW.invCall (args:=[]) rfl (mUnwrap _) (at_Unwrap W B p s (chainR r (eno c) |> fun _=>chainV r (eno c)) (chainR l (eno c)) (by rw [hq];exact chainR_mem q p s r (eno c))) func424 rfl fname424 trivial .t rfl ?_)
   rintro _ _ ⟨rfl,rfl⟩
   refine LW.go ul 6 rfl (LW.ifaceNil false rfl underlying43 (.inr ⟨chainV_iface r c,rfl⟩) rfl ?_)
   exact LW.go ul 6 rfl (NW.mG (r) (by exact⟨⟨q++[(p,s)],by rw [hq];simp⟩,Nat.lt_succ_self _⟩))
theorem errors_As (l:List (Nat×List UInt8))(c:Int)(t:Nat)(old:Value)(h0:0<B)(hg:W.cell? ⟨0,0,none⟩=some (rty 43)) :
  Spec prog W B 24 [chainV l (eno c),.iface 74 (ptr t)] ([cr t 52 [old]]++chainR l (eno c))
   (fun r post=>r=.bool true/\post=[cr t 52 [.int .i64 c]]++chainR l (eno c)):=by
 refine Spec.eG [[cr t 52 [old]],chainR l (eno c)] func24 ntmps24 fun w0=>?_
 refine CW.go ul 9 rfl (LW.ifaceNil false rfl underlying43 (.inr ⟨chainV_iface l c,rfl⟩) rfl ?_)
 refine LW.go ul 9 rfl (LW.ifaceNil _ rfl underlying20 (.inr ⟨⟨_,_,rfl⟩,rfl⟩) rfl ?_)
 refine LW.go ul 8 rfl ?_
 refine LW.extAlloc (args:=[.iface 74 (ptr t)]) (fun b=>rval 74 b 150) 74 [ptr t] xValueOf ⟨rfl,trivial⟩ (fun w _=>valueOfP w t) rfl (fun b14=>?_)
 refine LW.alloc zero126 rfl ?_
 intro ba5
 refine LW.sA ([hd 74,ptr b14,.int .u64 150]) szt126 (rvalCells_one _ _ _) ?_
 refine LW.go ul 4 rfl (LW.loadAgg ([hd 74,ptr b14,.int .u64 150]) rfl .t (by intro j v hj;rw [Nat.zero_add];exact hj) underlying126 rfl (sze szt126) rfl ?_)
 refine LW.ext (args:=[rval 74 b14 150]) (rty 74) xType ⟨rfl,trivial⟩ (fun w _=>typeP w b14) rfl ?_
 refine LW.go ul 7 rfl (LW.invExt (args:=[]) (.int .u8 22) rfl (mKind _) xKind trivial (fun w _=>kindP w) rfl ?_)
 refine LW.neq false rfl rfl (rfl) rfl ?_
 refine LW.go ul 2 rfl (LW.loadAgg ([hd 74,ptr b14,.int .u64 150]) rfl .t (by intro j v hj;rw [Nat.zero_add];exact hj) underlying126 rfl (sze szt126) rfl ?_)
 refine LW.go ul 1 rfl (LW.ext (args:=[rval 74 b14 150]) (.bool false) xIsNil ⟨rfl,trivial⟩ (fun w s=>isNilP w b14 t (s.cell .t rfl)) rfl ?_)
 refine LW.go ul 9 rfl (LW.invExt (args:=[]) (rty 52) rfl (mElem _) xElem trivial (fun w _=>elemP w) rfl ?_)
 refine LW.go ul 7 rfl (LW.invExt (args:=[]) (.int .u8 2) rfl (mKind _) xKind trivial (fun w _=>kindE w) rfl ?_)
 refine LW.neq true rfl rfl (rfl) rfl ?_
 refine LW.go ul 4 rfl (LW.loadOld rfl (h0) (hg) one129 rfl ?_)
 refine LW.go ul 1 rfl (LW.invExt (args:=[rty 43]) (.bool true) rfl (mImpl _) xImpl ⟨rfl,trivial⟩ (fun w _=>implE w) rfl ?_)
 refine LW.go ul 12 rfl (LW.loadAgg ([hd 74,ptr b14,.int .u64 150]) rfl .t (by intro j v hj;rw [Nat.zero_add];exact hj) underlying126 rfl (sze szt126) rfl ?_)
 refine LW.go ul 1 rfl (LW.eT (errors_as W B l c t b14 old) cl58 .n3 ?_)
 refine LW.go ul 4 rfl ?_
 refine NW.r1 ⟨_,⟨rfl,rfl⟩,?_⟩
 exact Sub.one .t
end
open Go.RowKit Go.Extern
section
variable (W:World)(B:Nat)
theorem errors_is (l:List (Nat×List UInt8))(c c2:Int) :
   Spec prog W B 397 [chainV l (eno c),eno c2,.bool true] (chainR l (eno c)) (fun r post=>r=.bool (c==c2)/\post=chainR l (eno c)):=by
 refine Spec.eG [chainR l (eno c)] func397 ntmps397 fun w0=>?_
 refine CW.go ul 6 rfl ?_
 refine CW.loopG (fun r:List (Nat×List UInt8)=>[(0,chainV r (eno c)),(1,eno c2),(2,.bool true)]) (fun _=>[chainR l (eno c)]) (fun r=>∃ q,l=q++r) List.length l (by exact⟨[],rfl⟩) rfl (by repeat' constructor) ?_
 rintro r ⟨q,hq⟩
 refine CW.go ul 6 rfl ?_
 rcases r with _ | ⟨⟨p,s⟩,r⟩
 . refine LW.go ul 5 rfl (LW.ifaceEqInt (c==c2) rfl rfl underlying43 underlying52 compErrno rfl rfl ?_)
   refine LW.go ul 3 rfl ?_
   refine CW.cond rfl (fun hc19=>?_) (fun hc19=>?_)
   . have hcc:(c==c2)=true:=hc19
     refine CW.go ul 8 rfl (NW.then_ret ?_)
     refine NW.go ul 1 rfl ?_
     refine NW.ret1 rfl rfl ⟨_,⟨by rw [hcc],rfl⟩,?_⟩
     exact Sub.one .t
   . have hcc:(c==c2)=false:=hc19
     refine CW.go ul 6 rfl (LW.tassert rfl (fun w=>noIsE _ _ w) rfl ?_)
     refine LW.go ul 28 rfl (LW.tassert rfl (fun w=>noUnwE _ _ w) rfl ?_)
     refine LW.go ul 7 rfl (LW.tassert rfl (fun w=>noUnwsE _ _ w) rfl ?_)
     refine LW.go ul 18 rfl (NW.then_ret ?_)
     refine NW.go ul 1 rfl ?_
     refine NW.ret1 rfl rfl ⟨_,⟨by rw [hcc],rfl⟩,?_⟩
     exact Sub.one .t
 . refine LW.go ul 5 rfl (LW.ifaceEqNe rfl rfl underlying43 (by decide) rfl ?_)
   refine LW.go ul 10 rfl (LW.tassert rfl (fun w=>noIsA _ _ w) rfl ?_)
   refine LW.go ul 28 rfl (LW.tassert rfl (fun w=>unwA _ _ w) rfl ?_)
   refine LW.go ul 13 rfl (LW.invCall (args:=[]) rfl (mUnwrap _) (at_Unwrap W B p s (chainV r (eno c)) (chainR l (eno c)) (by rw [hq];exact chainR_mem q p s r (eno c))) func424 rfl fname424 trivial .t rfl ?_)
   rintro _ _ ⟨rfl,rfl⟩
   refine LW.go ul 6 rfl (LW.ifaceNil false rfl underlying43 (.inr ⟨chainV_iface r c,rfl⟩) rfl ?_)
   exact LW.go ul 6 rfl (NW.mG (r) (by exact⟨⟨q++[(p,s)],by rw [hq];simp⟩,Nat.lt_succ_self _⟩))
theorem errors_Is (l:List (Nat×List UInt8))(c c2:Int) :
  Spec prog W B 396 [chainV l (eno c),eno c2] (chainR l (eno c)) (fun r post=>r=.bool (c==c2)/\post=chainR l (eno c)):=by
 refine Spec.eG [chainR l (eno c)] func396 ntmps396 fun w0=>?_
 refine CW.go ul 9 rfl (LW.ifaceNil false rfl underlying43 (.inr ⟨chainV_iface l c,rfl⟩) rfl ?_)
 refine LW.go ul 4 rfl (LW.ifaceNil _ rfl underlying43 (.inr ⟨⟨_,_,rfl⟩,rfl⟩) rfl ?_)
 refine LW.go ul 9 rfl (LW.ext (args:=[eno c2]) (rty 52) xTypeOf ⟨rfl,trivial⟩ (fun w _=>typeOfE w c2) rfl ?_)
 refine LW.invExt (args:=[]) (.bool true) rfl (mComp _) xComp trivial (fun w _=>compE w) rfl ?_
 refine LW.go ul 8 rfl (LW.eG (errors_is W B l c c2) cl397 ?_)
 refine LW.go ul 4 rfl ?_
 refine NW.r1 ⟨_,⟨rfl,rfl⟩,?_⟩
 exact Sub.one .t
theorem fail_At (s:List UInt8)(l:List (Nat×List UInt8))(c:Int)(hc:l=[]->c≠0) :
   Spec prog W B 28 [strV s,chainV l (eno c)] (chainR l (eno c)) (fun r post=>∃ p,r=chainV ((p,s)::l) (eno c)/\post=chainR ((p,s)::l) (eno c)):=by
 rcases l with _ | ⟨⟨p,s0⟩,l⟩
 . have hc0:c≠0:=hc rfl
   refine Spec.eG [chainR [] (eno c)] func28 ntmps28 fun w0=>?_
   refine CW.go ul 9 rfl (LW.ifaceNil _ rfl underlying43 (.inr ⟨⟨_,_,rfl⟩,rfl⟩) rfl ?_)
   refine LW.go ul 6 rfl (LW.ifaceEqInt false rfl rfl underlying43 underlying52 compErrno (beq_eq_false_iff_ne.2 hc0) rfl ?_)
   refine LW.go ul 10 rfl (LW.bd [_,_] (#[strV s,eno c]) ?_)
   refine LW.bx ?_
   intro bb15
   refine LW.go ul 5 rfl ?_
   refine NW.r1 ⟨_,⟨bb15,rfl,rfl⟩,?_⟩
   exact Sub.take (p:=[_]) .t (Sub.one .t)
 ·
   refine Spec.eG [chainR ((p,s0)::l) (eno c)] func28 ntmps28 fun w0=>?_
   refine CW.go ul 9 rfl (LW.ifaceNil _ rfl underlying43 (.inr ⟨⟨_,_,rfl⟩,rfl⟩) rfl ?_)
   refine LW.go ul 6 rfl (LW.ifaceEqNe rfl rfl underlying43 (by decide) rfl ?_)
   refine LW.go ul 10 rfl (LW.bd [_,_] (#[strV s,chainV ((p,s0)::l) (eno c)]) ?_)
   refine LW.bx ?_
   intro bb15
   refine LW.go ul 5 rfl ?_
   refine NW.r1 ⟨_,⟨bb15,rfl,rfl⟩,?_⟩
   exact Sub.take (p:=[_]) .t (Sub.one .t)
theorem fail_Code (l:List (Nat×List UInt8))(c:Int)(h0:0<B)(hg:W.cell? ⟨0,0,none⟩=some (rty 43)) :
  Spec prog W B 10 [chainV l (eno c)] (chainR l (eno c)) (fun r post=>r=.int .i64 c/\post=chainR l (eno c)):=by
 refine Spec.eG [chainR l (eno c)] func10 ntmps10 fun w0=>?_
 refine CW.go ul 9 rfl (LW.ifaceNil false rfl underlying43 (.inr ⟨chainV_iface l c,rfl⟩) rfl ?_)
 refine LW.go ul 7 rfl (LW.alloc zero52 rfl ?_)
 intro ba3
 refine LW.go ul 7 rfl (LW.eT (errors_As W B l c ba3 (.int .i64 0) h0 hg) cl24 .n2 ?_)
 refine LW.split2 ?_
 refine LW.not (false) rfl (rfl) rfl ?_
 refine LW.go ul 7 rfl (LW.ld one52 ?_)
 refine LW.go ul 4 rfl ?_
 refine NW.r1 ⟨_,⟨rfl,rfl⟩,?_⟩
 exact Sub.one .t
theorem fail_Is (l:List (Nat×List UInt8))(c c2:Int) :
   Spec prog W B 395 [chainV l (eno c),.int .i64 c2] (chainR l (eno c)) (fun r post=>r=.bool (if c2=0 then false else c==c2)/\post=chainR l (eno c)):=by
 by_cases h2:c2=0
 . rw [if_pos h2]
   refine Spec.eG [chainR l (eno c)] func395 ntmps395 fun w0=>?_
   refine CW.go ul 9 rfl (LW.eqlT ?_)
   refine LW.go ul 6 rfl (LW.ifaceNil false rfl underlying43 (.inr ⟨chainV_iface l c,rfl⟩) rfl ?_)
   refine LW.go ul 5 rfl ?_
   refine NW.r1 ⟨_,⟨rfl,rfl⟩,?_⟩
   exact Sub.one .t
 . rw [if_neg h2]
   refine Spec.eG [chainR l (eno c)] func395 ntmps395 fun w0=>?_
   refine CW.go ul 9 rfl (LW.eqlF ?_)
   refine LW.go ul 10 rfl (LW.eG (errors_Is W B l c c2) cl396 ?_)
   refine LW.go ul 4 rfl ?_
   refine NW.r1 ⟨_,⟨rfl,rfl⟩,?_⟩
   exact Sub.one .t
theorem atE (v:Value)(xT:Nat)(w:World):(Instr.typeAssert (.iface 147 v) xT 147 true).run prog w=.ok (.tuple #[v,.bool true]) w:=run_typeAssert_same underlying147 rfl w
theorem noAtE (v:Value)(xT:Nat)(w:World):(Instr.typeAssert (.iface 52 v) xT 147 true).run prog w=.ok (.tuple #[.pointer none,.bool false]) w:=run_typeAssert_other underlying147 rfl (by decide) (by kernel_rfl) w
theorem fail_Where (l:List (Nat×List UInt8))(c:Int)(hl:l.length<=1000000) :
   Spec prog W B 394 [chainV l (eno c)] (chainR l (eno c)) (fun r post=>∃ ch,OwnS 9 1 r l.length (l.map (fun x=>strV x.2)) ch/\post=ch++chainR l (eno c)):=by
 refine Spec.eG [chainR l (eno c)] func394 ntmps394 fun w0=>?_
 refine CW.go ul 11 rfl ?_
 refine CW.loopG (fun st:List (Nat×List UInt8)×Value×List Row=>[(0,chainV st.1 (eno c)),(3,st.2.1)]) (fun st=>[st.2.2,chainR l (eno c)]) (fun st=>∃ q,l=q++st.1/\OwnS 9 1 st.2.1 q.length (q.map (fun x=>strV x.2)) st.2.2) (fun st=>st.1.length) (l,.slice none 0 0,[]) (by exact⟨[],rfl,OwnS.nil⟩) rfl (by repeat' constructor) ?_
 rintro⟨r,v,ch⟩ ⟨q,hq,ho⟩;dsimp only at hq ho
 refine CW.go ul 3 rfl ?_
 rcases r with _ | ⟨⟨p,s⟩,r⟩
 . refine LW.go ul 1 rfl (LW.tassert rfl (fun w=>noAtE _ _ w) rfl ?_)
   refine LW.go ul 16 rfl ?_
   rw [List.append_nil] at hq
   subst hq
   refine CW.go ul 8 rfl (NW.then_ret ?_)
   refine NW.go ul 1 rfl ?_
   refine NW.r1 ⟨_,⟨ch,ho,rfl⟩,?_⟩
   exact .s2
 . refine LW.go ul 1 rfl (LW.tassert rfl (fun w=>atE _ _ w) rfl ?_)
   refine LW.go ul 17 rfl ?_
   have hm:cr p 149 [strV s,chainV r (eno c)]∈chainR l (eno c):=by rw [hq];exact chainR_mem q p s r (eno c)
   have hql:q.length<l.length:=by rw [hq];simp
   refine CW.drawH (chainR l (eno c)) mixed ?_
   refine AW.takes [0,1,2,3,4,7,8,9,10] 4 (by kernel_rfl) (by kernel_rfl) rfl (by repeat (first | refine PO.qof ?_ | exact PO.body | refine PO.then_ ?_ | refine PO.block ?_ | refine PO.noGoto ?_)) (fun _ s=>Held.of s (Sub.one .t)) ?_
   refine TW.mv ?_
   refine TW.mv ?_
   refine TW.np ?_
   refine TW.fa fa149_0 ?_
   refine TW.take rfl (Yl.loadIn rfl hm rfl one9) rfl ?_
   refine TW.mv ?_
   refine TW.np ?_
   refine TW.fa fa149_1 ?_
   refine TW.take rfl (Yl.loadIn rfl hm rfl one43) rfl ?_
   refine TW.nil (AW.a 5 ?_)
   refine LW.bs [_] underlying223 info9 ?_
   intro bs19
   refine LW.nil (AW.back (fun _ s=>Held.of s (Sub.one .t)) ?_)
   refine AW.a 6 ?_
   refine LW.append ([strV s]) rfl rfl underlying223 underlying223 (.inr ⟨_,rfl⟩) info9 rfl (ho) .t (fun _=>lenOf_slice _ _ _ _) (first_rd (RdAt.row .t zd) rfl (fun h=>(by cases h))) (rfl) (by intro u hu;simp at hu;subst hu;rfl) (by omega) (by omega) rfl ?_
   intro v' ch' ho'
   refine LW.nil (AW.back (fun _ s=>Held.of s (Sub.one .t)) ?_)
   refine AW.takes [11,12] 0 (by kernel_rfl) (by kernel_rfl) rfl (by repeat (first | refine PO.qof ?_ | exact PO.body | refine PO.then_ ?_ | refine PO.block ?_ | refine PO.noGoto ?_)) (fun _ s=>Held.of s (Sub.one .t)) ?_
   refine TW.as ?_
   refine TW.as ?_
   refine TW.nil (AW.d ?_)
   exact NW.go ul 1 rfl (NW.mG ((r,v',ch')) (by exact⟨⟨q++[(p,s)],by rw [hq];simp,by simpa using ho'⟩,Nat.lt_succ_self _⟩))
end
open Go.RowKit
def bgB:List UInt8:=(List.replicate 64 0).set 3 7
def bgS:DevS:=((DevS.zero 64).put 5 bgB).burn
theorem bgB_row:((List.replicate 64 (0:UInt8)).map u8v).set 3 (.int .u8 7)=bgB.map u8v:=by kernel_rfl
theorem bg_r:(bgS.crash 64 [true]).now.getD 5 []=bgB:=by kernel_rfl
theorem bg_x:(bgS.crash 64 []).now.getD 5 []=zSec:=by kernel_rfl
def bgT:List UInt8:=[1,253,2,44,1,1,2,104,105]
theorem bg_t:([]++encs [-3,300]++encZ ((2:Nat):Int)++[104,105]:List UInt8)=bgT:=by decide +kernel
theorem bg_1:getZ bgT=some (-3,2):=by decide +kernel
theorem bg_2:getZ (bgT.drop 2)=some (300,3):=by decide +kernel
theorem bg_3:getZ ((bgT.drop 2).drop 3)=some (2,2):=by decide +kernel
section
variable (W:World)(B:Nat)
theorem law_begun (h0:0<B)(hg:W.cell? ⟨0,0,none⟩=some (rty 43)):Spec prog W B 393 [] [] (fun v post=>v=.bool true/\post=[]):=by
 have hk0:(DevS.zero 64).Ok 64:=DevS.Ok.zero (by decide) (by decide)
 have hk1:bgS.Ok 64:=(hk0.put (by decide)).burn rfl
 refine Spec.eG [] func393 ntmps393 fun w0=>?_
 refine CW.go ul 7 rfl (LW.cT (dev_New W B 64 (by decide) (by decide)) cl12 (Take.none _) ?_)
 rintro _ _ ⟨p,bn,bw,bl,rfl,rfl⟩
 refine LW.go ul 7 rfl (LW.pn underlying45 ?_)
 refine LW.go ul 7 rfl (LW.make (64) (64) ((List.replicate 64 (0:UInt8)).map u8v) rfl rfl (by first | rfl | omega) (by first | rfl | omega) underlying65 info5 (by omega) (by omega) (by omega) (by rw [List.map_replicate];exact madeCells_rep _ _ _ (by intro x hx;simp [Value.cells] at hx;exact hx) (by simp [Value.cells])) rfl ?_)
 intro bm16
 refine LW.go ul 6 rfl (LW.indexAddr (3) rfl rfl underlying65 ixs65 (by omega) (by omega) (rfl) rfl ?_)
 refine LW.sr sz5 ?_
 rw [bgB_row]
 refine LW.go ul 6 rfl (LW.eT (dev_Write_ok W B p bn bw bl 64 (DevS.zero 64) hk0 5 (by decide) rfl [cr bm16 5 (bgB.map u8v)] (some ⟨bm16,0,none⟩) 64 bgB rfl (Src.row zd)) cl90 .n2 ?_)
 refine LW.split2 ?_
 refine LW.go ul 6 rfl (LW.bs [_] underlying23 info4 ?_)
 intro bs23
 refine LW.cT (dev_Crash W B p bn bw bl 64 bgS hk1 [cr bs23 4 [.bool true]] (some ⟨bs23,0,none⟩) 1 [true] (Src.row zd)) cl62 .n2 ?_
 rintro _ _ ⟨cp,cn,cw,cl,rfl,rfl⟩;refine LW.split2 (LW.split2p ?_)
 refine LW.go ul 6 rfl (LW.cT (dev_Crash W B p bn bw bl 64 bgS hk1 [] none 0 [] Src.nil) cl62 (Take.both (Take.none _) .t) ?_)
 rintro _ _ ⟨xp,xn,xw,xl,rfl,rfl⟩;refine LW.split2 (LW.split2p ?_)
 refine LW.go ul 7 rfl (LW.pn underlying45 ?_)
 refine LW.go ul 4 rfl (LW.pn underlying45 ?_)
 refine LW.go ul 9 rfl (LW.cG (dev_Read W B cp cn cw cl 64 (bgS.crash 64 [true]) (hk1.crash _) 5 (by decide)) cl89 ?_)
 rintro _ _ ⟨q1,rfl,rfl⟩;rw [bg_r];refine LW.split1 ?_
 refine LW.go ul 10 rfl (LW.cG (dev_Read W B xp xn xw xl 64 (bgS.crash 64 []) (hk1.crash _) 5 (by decide)) cl89 ?_)
 rintro _ _ ⟨q2,rfl,rfl⟩;rw [bg_x];refine LW.split1 ?_
 refine LW.go ul 9 rfl (LW.alloc zero99 rfl ?_)
 intro ba10
 refine LW.go ul 4 rfl (LW.bs [_,_] underlying166 info2 ?_)
 intro bs43
 refine LW.cT (bin_WInt W B ba10 (.slice none 0 0) [] [] OwnB.nil [-3,300] (by intro n hn;simp at hn;rcases hn with rfl | rfl<;>exact⟨by decide,by decide⟩) [cr bs43 2 [.int .i64 (-3),.int .i64 300]] (some ⟨bs43,0,none⟩) 2 (Src.row zd) (by decide)) cl40 (Take.both .t (Take.both .t (Take.none _))) ?_
 rintro _ _ ⟨rfl,v1,ch1,ho1,rfl⟩;refine LW.split2 ?_
 refine LW.go ul 4 rfl (LW.cG (bin_WText W B ba10 v1 ([]++encs [-3,300]) ch1 ho1 [104,105] (by decide +kernel)) cl41 ?_)
 rintro _ _ ⟨rfl,v2,ch2,ho2,rfl⟩;rw [show ([]++encs [-3,300]++encZ (([104,105]:List UInt8).length:Int)++[104,105]:List UInt8)=bgT from bg_t] at ho2
 refine LW.go ul 4 rfl (LW.cG (bin_WBytes W B ba10 v2 bgT ch2 ho2 (by decide)) cl43 ?_)
 rintro v3 _ ⟨ch3,ho3,rfl⟩;obtain⟨A3,cp3,rfl,hA3,_⟩:=OwnS.val ho3;refine LW.split2 ?_
 refine LW.cG (bin_NewReader W B ch3 A3 cp3 bgT (OwnS.src ho3) hA3 (by decide)) cl114 ?_
 rintro _ _ ⟨rp,rv,rch,rfl,hrd,rfl⟩;refine LW.split2 ?_
 refine LW.go ul 6 rfl (LW.cT (fail_At W B [98] [] 5 (fun _=>by decide)) cl28 (Take.none _) ?_)
 rintro _ _ ⟨p1,rfl,rfl⟩
 refine LW.cG (fail_At W B [97] [(p1,[98])] 5 (fun h=>(by cases h))) cl28 ?_
 rintro _ _ ⟨p2,rfl,rfl⟩
 refine LW.go ul 6 rfl (LW.eql true rfl rfl (rfl) rfl ?_)
 refine LW.go ul 4 rfl (LW.eql true rfl rfl (rfl) rfl ?_)
 refine LW.go ul 5 rfl (LW.eql true rfl rfl (rfl) rfl ?_)
 refine LW.go ul 5 rfl (LW.bytesStr (bgB) rfl underlying65 underlying5 underlying9 (RdAt.row .t zd) (rfl) rfl ?_)
 refine LW.go ul 3 rfl (LW.bytesStr (bgB) rfl underlying65 underlying5 underlying9 (RdAt.row .t zd) (rfl) rfl ?_)
 refine LW.go ul 1 rfl (LW.strEql (true) rfl rfl underlying9 (decide_eq_true rfl) rfl ?_)
 refine LW.go ul 7 rfl (LW.eql true rfl rfl (rfl) rfl ?_)
 refine LW.go ul 5 rfl (LW.indexAddr (3) rfl rfl underlying65 ixs65 (by decide) (by decide) (rfl) rfl ?_)
 refine LW.go ul 1 rfl (LW.load (v:=.int .u8 0) rfl .t (rfl) one5 rfl ?_)
 refine LW.go ul 1 rfl (LW.eql true rfl rfl (rfl) rfl ?_)
 refine LW.go ul 5 rfl (LW.ptrNotNil _ rfl underlying203 rfl rfl ?_)
 refine LW.go ul 5 rfl (LW.cG (bin_RInt_some W B rp rv bgT rch hrd (by decide) (-3) 2 bg_1) cl115 ?_)
 rintro _ _ ⟨rfl,rv1,hrd1,rfl⟩
 refine LW.go ul 1 rfl (LW.eql true rfl rfl (rfl) rfl ?_)
 refine LW.go ul 5 rfl (LW.cG (bin_RInt_some W B rp rv1 (bgT.drop 2) rch hrd1 (by decide) 300 3 bg_2) cl115 ?_)
 rintro _ _ ⟨rfl,rv2,hrd2,rfl⟩
 refine LW.go ul 1 rfl (LW.eql true rfl rfl (rfl) rfl ?_)
 refine LW.go ul 5 rfl (LW.cG ((bin_RText W B rp rv2 ((bgT.drop 2).drop 3) rch hrd2 (by decide) 2 2 bg_3 5).mono (R':=fun r post=>r=strV [104,105]/\∃ v',RdS W B v' [] rch/\post=[cr rp 301 [v',.bool false]]++rch) (by rintro r post (⟨hn,_⟩ | ⟨_,hr,v',hv,hp⟩);exact absurd ⟨by decide,by decide,by decide⟩ hn;exact⟨hr,v',hv,hp⟩)) cl117 ?_)
 rintro _ _ ⟨rfl,rv3,hrd3,rfl⟩
 refine LW.go ul 1 rfl (LW.strEql (true) rfl rfl underlying9 (decide_eq_true rfl) rfl ?_)
 refine LW.go ul 5 rfl (LW.eG (bin_End W B rp rv3 false [] rch hrd3) cl120 ?_)
 refine LW.go ul 1 rfl (LW.eql true rfl rfl (rfl) rfl ?_)
 refine LW.go ul 5 rfl (LW.eG (fail_Code W B [(p2,[97]),(p1,[98])] 5 h0 hg) cl10 ?_)
 refine LW.go ul 1 rfl (LW.eql true rfl rfl (rfl) rfl ?_)
 refine LW.go ul 5 rfl (LW.cG (fail_Where W B [(p2,[97]),(p1,[98])] 5 (by simp)) cl394 ?_)
 rintro v4 _ ⟨ch4,ho4,rfl⟩;obtain⟨A4,cp4,rfl,_,_⟩:=OwnS.val ho4;refine LW.split2 ?_
 refine LW.go ul 3 rfl (LW.eql true rfl rfl (rfl) rfl ?_)
 refine LW.go ul 5 rfl (LW.eG (fail_Is W B [(p2,[97]),(p1,[98])] 5 5) cl395 ?_)
 refine LW.go ul 5 rfl ?_
 refine NW.r1 ⟨_,⟨rfl,rfl⟩,?_⟩
 exact Sub.nil _
end
open Go.ChangeShapes Go.WideShapes Go.RowKit
theorem own:ownKnob prog.godebug=none:=by kernel_rfl
theorem laidOut:laidOutB prog=true:=by kernel_rfl
theorem etNamed:prog.globalNamed "errors.errorType" = some 0:=by kernel_rfl
theorem rtCut:(prog.cutTypes.find? (·.1 == "internal/reflectlite.rtype")).map (·.2)=some 186:=by kernel_rfl
theorem oneRow:((List.range 497).filter fun t=>prog.rowNamed t [101,114,114,111,114])=[43]:=by kernel_rfl
theorem ntypes:prog.types.size=497:=by kernel_rfl
theorem handle_of_laid {W:World}(h:laidMetH prog [("errors.errorType",Rows.laid_errors_errorType)] W):W.cell? ⟨0,0,none⟩=some (rty 43):=by
 have h':laidMet prog [] W/\handlesMet prog [("errors.errorType",Rows.laid_errors_errorType)] W:=h
 obtain⟨name,u,ty,e1,e2,e3,e4,e5⟩:=h'.2 _ (List.mem_singleton.2 rfl)
 have en:name=[101,114,114,111,114]:=(Option.some.inj e1).symm
 subst en
 obtain rfl:=Option.some.inj (rtCut.symm.trans e2)
 have hm:ty∈(List.range 497).filter fun t=>prog.rowNamed t [101,114,114,111,114]:=List.mem_filter.2 ⟨List.mem_range.2 (by rw [<- ntypes];exact e3),e4⟩
 rw [oneRow] at hm
 obtain rfl:=List.mem_singleton.1 hm
 have hh:typeHandle prog 43=.pointer (some ⟨2,43,none⟩):=by kernel_rfl
 rw [hh] at e5
 simpa [rty,hd] using World.var?_cell etNamed e5 0
theorem Spec.below {P:Program}{W:World}{f:FuncId}{args:List Value}(h:Spec P W W.heap.size f args [] (fun v post=>v=.bool true/\post=[])) :
  Calls P f args.toArray W fun e W'=>e=.returned (.bool true)/\Below W.heap.size W W':=by
 refine (h W (Old.refl _ _ (Nat.le_refl _)) ⟨by simp,fun r hr=>by cases hr⟩).mono ?_
 rintro e W' ⟨v,post,rfl,⟨rfl,rfl⟩,hx⟩
 exact⟨rfl,hx.os,hx.tape,hx.output,hx.size,fun k hk=>hx.frame k hk (by simp)⟩
theorem heap_pos {W:World}{v:Value}(h:W.cell? ⟨0,0,none⟩=some v):0<W.heap.size:=by
 rcases Nat.eq_zero_or_pos W.heap.size with h0 | h'
 . simp [World.cell?,h0] at h
 . exact h'
theorem block_lt {W:World}{a:Addr}{v:Value}(h:W.cell? a=some v):a.block<W.heap.size:=by
 rcases Nat.lt_or_ge a.block W.heap.size with h' | h'
 . exact h'
 . simp [World.cell?,Array.getElem?_eq_none h'] at h
theorem trodAll_below {H:Type}{enc:TypeId×Value->H}{P:Program}(hl:laidOutB P=true){W W':World}(hb:Below W.heap.size W W'):∀ (ts:List TypeId) (vs:List Value) (ds:List (DataW H)) (ps:List MemPlace),
  (∀ t∈ts,P.readableRec t=true/\t<P.types.size)->DataW.TrodAll enc P W 0 (fun _=>true) true ts vs ds ps->(∀ x∈ps,x.block<W.heap.size)->DataW.TrodAll enc P W' 0 (fun b=>decide (b<W.heap.size)) true ts vs ds ps
 | [],[],[],ps,_,h,_=>h
 | t::ts,v::vs,d::ds,ps,hr,h,hlt=>by
  obtain⟨p,q,h1,h2,rfl⟩:=h
  exact⟨p,q,hb.trod hl (hr t (by simp)).1 (hr t (by simp)).2 h1 (fun x hx=>hlt x (by simp [hx])),trodAll_below hl hb ts vs ds q (fun t' ht=>hr t' (by simp [ht])) h2 (fun x hx=>hlt x (by simp [hx])),rfl⟩
 | [],[],_::_,_,_,h,_=>h.elim
 | [],_::_,_,_,_,h,_=>h.elim
 | _::_,[],_,_,_,h,_=>h.elim
 | _::_,_::_,[],_,_,h,_=>h.elim
theorem post_true {H:Type}{enc:TypeId×Value->H}{f:Func}{s:ChangeSpec}{W W':World}{args:Array Value}{ds gs:List (DataW H)}{before:List MemPlace}(hW:DataW.Whole enc prog f.params.toList s.vars false W args.toList ds gs before)(hv:s.vars=[])(hr:f.resultTypes.toList=[4])
   (hp:∀ t∈f.params.toList,prog.readableRec t=true/\t<prog.types.size) (hfn:s.fn H (ds++gs)={ results:=[.lit (.bool true)],args:=ds }) (hb:Below W.heap.size W W'):s.post enc prog f false true false false W args (.bool true) W':=by
 have hlt:=hW.lt
 obtain⟨p,q,hA,hV,rfl,hfz,hnd⟩:=hW
 have hz:f.resultTypes.size=1:=by rw [<- Array.length_toList,hr];rfl
 refine⟨ds,gs,p++q,[],p,[],⟨p,q,hA,hV,rfl,hfz,hnd⟩,?_,?_,?_,hb.frame _,fun h=>by cases h⟩
 . rw [hfn,hr,hz];exact trodAll_mk1 (shut_bool underlying4 true)
 . rw [hfn];exact trodAll_below laidOut hb _ _ _ _ hp hA (fun x hx=>by simpa using hlt x (by simp [hx]))
 . rw [hfn,hv];exact rfl
open Go.ChangeShapes Go.WideShapes Go.RowKit Go.Deep
theorem list_of {α:Type}{f:α->Value}{p:α->Prop}:∀ (vs:List Value),(∀ u∈vs,∃ x,u=f x/\p x)->∃ xs:List α,vs=xs.map f/\∀ x∈xs,p x
 | [],_=>⟨[],rfl,fun _ h=>by cases h⟩
 | v::vs,h=>by
  obtain⟨x,rfl,hp⟩:=h v (by simp)
  obtain⟨xs,rfl,hps⟩:=list_of vs (fun u hu=>h u (by simp [hu]))
  exact⟨x::xs,rfl,fun y hy=>by
   rcases List.mem_cons.1 hy with rfl | hy
   . exact hp
   . exact hps y hy⟩
section
variable {H:Type}{enc:TypeId×Value->H}{P:Program}{W:World}
theorem open_src {r:Reach}{b0:Nat}{t e:TypeId}{v:Value}{d:DataW H}{ps:List MemPlace}(ht:P.underlying t=some (.slice e))(hc:P.cellsOf e=1)(hv:Value.okWide P W r b0 t v)(h:DataW.Trod enc P W 0 (fun _=>true) true t v d ps) :
   ∃ A cp vs,v=.slice A vs.length cp/\vs.length<=cp/\cp<=maxLen/\Src W W.heap.size [] A vs/\(A=none->vs.length=0)/\∀ u∈vs,∃ n x,DataW.trod enc P W 0 (fun _=>true) true n e [u]=some x:=by
 obtain⟨a,l,c,rfl⟩:=okWide_slice ht hv
 obtain⟨fuel,hf⟩:=h
 rcases open_slice1 ht hc hf with ⟨h0,_⟩ | ⟨a',len,cap,m,n,V,D,Pl,h1,hb,hl,hm,hmm,hx,hcell⟩
 . simp [Value.cells] at h0
   obtain⟨rfl,rfl,rfl⟩:=h0
   exact⟨none,0,[],rfl,Nat.le_refl _,by simp [maxLen],Src.nil,fun _=>rfl,fun _ hu=>by cases hu⟩
 . simp [Value.cells] at h1
   obtain⟨rfl,rfl,rfl⟩:=h1
   simp only [if_true] at hmm
   subst hmm
   refine⟨some a',m,(List.range l).map V,by simp,by simpa using hl,hm,?_,fun h=>(by cases h),?_⟩
   . rcases Nat.eq_zero_or_pos l with rfl | hpos
     . exact .inl rfl
     . refine .inr ⟨a',rfl,.inl ⟨?_,fun j u hj=>?_⟩⟩
       . have:=block_lt (hcell 0 (by omega)).1
         rwa [block_of_add] at this
       . have hjl:j<l:=by
          have:=(List.getElem?_eq_some_iff.1 hj).1
          simpa using this
         simp [hjl] at hj
         subst hj
         exact (hcell j (by omega)).1
   . intro u hu
     obtain⟨j,hj,rfl⟩:=List.mem_map.1 hu
     have:=List.mem_range.1 hj
     exact⟨n,_,(hcell j (by omega)).2⟩
theorem open_bools' {r:Reach}{b0:Nat}{t e:TypeId}{v:Value}{d:DataW H}{ps:List MemPlace}(ht:P.underlying t=some (.slice e))(he:P.underlying e=some .bool)(hc:P.cellsOf e=1)(hv:Value.okWide P W r b0 t v)(h:DataW.Trod enc P W 0 (fun _=>true) true t v d ps) :
  ∃ A cp,∃ keep:List Bool,v=.slice A keep.length cp/\keep.length<=cp/\cp<=maxLen/\Src W W.heap.size [] A (keep.map .bool)/\(A=none->keep.length=0):=by
 obtain⟨A,cp,vs,rfl,hl,hm,hs,hA,hel⟩:=open_src ht hc hv h
 obtain⟨xs,rfl,_⟩:=list_of (f:=Value.bool) (p:=fun _=>True) vs (fun u hu=>by
  obtain⟨n,x,hx⟩:=hel u hu
  obtain⟨b,h1,_⟩:=DataW.trod_bool he hx
  exact⟨b,by simpa using h1,trivial⟩)
 exact⟨A,cp,xs,by simp,by simpa using hl,hm,hs,by simpa using hA⟩
end
open Go.Shelf
def laySortI_ren:Go.Shelf.Ren:=⟨fun | 5=>227 | 8=>272 | 7=>279 | 19=>322 | 20=>323 | 10=>326 | 11=>327 | 12=>328 | 13=>329 | 14=>330 | 15=>331 | 16=>288 | 17=>332 | 18=>333 | 30=>366 | 31=>362 | 32=>363 | 33=>367 | 34=>368 | 35=>337 | 40=>385 | n=>n,fun | 23=>85 | 25=>3 | 3=>3 | 32=>109 | 22=>85 | 0=>0 | 44=>30 | 46=>420 | 4=>4 | 36=>414 | 35=>413 | 41=>350 | 5=>5 | 9=>9 | 53=>441 | 57=>397 | 63=>453 | 64=>251 | n=>n,fun | n=>n⟩
theorem laySortI:Go.Proofs.SlLaysM.n5 prog laySortI_ren:={ mixed:=by kernel_rfl,f5:=⟨f227.name,by decide,func227.trans (congrArg some (by kernel_rfl))⟩,f7:=⟨f279.name,by decide,func279.trans (congrArg some (by kernel_rfl))⟩,f8:=func272.trans (congrArg some (by kernel_rfl)),f10:=⟨f326.name,by decide,func326.trans (congrArg some (by kernel_rfl))⟩,f11:=⟨f327.name,by decide,func327.trans (congrArg some (by kernel_rfl))⟩,f12:=⟨f328.name,by decide,func328.trans (congrArg some (by kernel_rfl))⟩,f13:=⟨f329.name,by decide,func329.trans (congrArg some (by kernel_rfl))⟩,f14:=⟨f330.name,by decide,func330.trans (congrArg some (by kernel_rfl))⟩,f15:=⟨f331.name,by decide,func331.trans (congrArg some (by kernel_rfl))⟩,f16:=⟨f288.name,by decide,func288.trans (congrArg some (by kernel_rfl))⟩,f17:=⟨f332.name,by decide,func332.trans (congrArg some (by kernel_rfl))⟩,f18:=⟨f333.name,by decide,func333.trans (congrArg some (by kernel_rfl))⟩,f19:=func322.trans (congrArg some (by kernel_rfl)),f20:=func323.trans (congrArg some (by kernel_rfl)),f30:=⟨f366.name,by decide,func366.trans (congrArg some (by kernel_rfl))⟩,f31:=func362.trans (congrArg some (by kernel_rfl)),f32:=func363.trans (congrArg some (by kernel_rfl)),f33:=⟨f367.name,by decide,func367.trans (congrArg some (by kernel_rfl))⟩,f34:=⟨f368.name,by decide,func368.trans (congrArg some (by kernel_rfl))⟩,f35:=⟨f337.name,by decide,func337.trans (congrArg some (by kernel_rfl))⟩,f40:=⟨f385.name,by decide,func385.trans (congrArg some (by kernel_rfl))⟩,t0:=underlying0,a0:=isAgg0,z0:=sizeOf0,v0:=zeroValue0,t3:=underlying3,a3:=isAgg3,z3:=sizeOf3,v3:=zeroValue3,t4:=underlying4,a4:=isAgg4,z4:=sizeOf4,v4:=zeroValue4,t5:=underlying5,a5:=isAgg5,z5:=sizeOf5,v5:=zeroValue5,t9:=underlying9,a9:=isAgg9,z9:=sizeOf9,v9:=zeroValue9,t22:=underlying85,a22:=isAgg85,z22:=sizeOf85,v22:=zeroValue85,t23:=underlying85,a23:=isAgg85,z23:=sizeOf85,v23:=zeroValue85,t25:=underlying3,a25:=isAgg3,z25:=sizeOf3,v25:=zeroValue3,t32:=underlying109,a32:=isAgg109,z32:=sizeOf109,v32:=zeroValue109,t35:=underlying413,a35:=isAgg413,z35:=sizeOf413,v35:=zeroValue413,t36:=underlying414,a36:=isAgg414,z36:=sizeOf414,v36:=zeroValue414,t41:=underlying350,a41:=isAgg350,z41:=sizeOf350,v41:=zeroValue350,t44:=underlying30,a44:=isAgg30,z44:=sizeOf30,v44:=zeroValue30,t46:=underlying420,a46:=isAgg420,z46:=sizeOf420,v46:=zeroValue420,t53:=underlying441,a53:=isAgg441,z53:=sizeOf441,v53:=zeroValue441,t57:=underlying397,a57:=isAgg397,z57:=sizeOf397,v57:=zeroValue397,t63:=underlying453,a63:=isAgg453,z63:=sizeOf453,v63:=zeroValue453,t64:=underlying251,a64:=isAgg251,z64:=sizeOf251,v64:=zeroValue251 }
def laySortS_ren:Go.Shelf.Ren:=⟨fun | 6=>264 | 8=>272 | 9=>310 | 19=>322 | 20=>323 | 21=>351 | 22=>352 | 23=>353 | 24=>354 | 25=>355 | 26=>356 | 27=>357 | 28=>358 | 29=>359 | 36=>379 | 31=>362 | 32=>363 | 37=>380 | 38=>381 | 39=>382 | 41=>389 | n=>n,fun | 27=>223 | 29=>9 | 3=>3 | 32=>109 | 26=>223 | 0=>0 | 44=>30 | 46=>420 | 4=>4 | 36=>414 | 35=>413 | 41=>350 | 5=>5 | 9=>9 | 53=>441 | 57=>397 | 63=>453 | 64=>251 | n=>n,fun | n=>n⟩
theorem laySortS:Go.Proofs.SlLaysM.n6 prog laySortS_ren:={ mixed:=by kernel_rfl,f6:=⟨f264.name,by decide,func264.trans (congrArg some (by kernel_rfl))⟩,f8:=func272.trans (congrArg some (by kernel_rfl)),f9:=⟨f310.name,by decide,func310.trans (congrArg some (by kernel_rfl))⟩,f19:=func322.trans (congrArg some (by kernel_rfl)),f20:=func323.trans (congrArg some (by kernel_rfl)),f21:=⟨f351.name,by decide,func351.trans (congrArg some (by kernel_rfl))⟩,f22:=⟨f352.name,by decide,func352.trans (congrArg some (by kernel_rfl))⟩,f23:=⟨f353.name,by decide,func353.trans (congrArg some (by kernel_rfl))⟩,f24:=⟨f354.name,by decide,func354.trans (congrArg some (by kernel_rfl))⟩,f25:=⟨f355.name,by decide,func355.trans (congrArg some (by kernel_rfl))⟩,f26:=⟨f356.name,by decide,func356.trans (congrArg some (by kernel_rfl))⟩,f27:=⟨f357.name,by decide,func357.trans (congrArg some (by kernel_rfl))⟩,f28:=⟨f358.name,by decide,func358.trans (congrArg some (by kernel_rfl))⟩,f29:=⟨f359.name,by decide,func359.trans (congrArg some (by kernel_rfl))⟩,f31:=func362.trans (congrArg some (by kernel_rfl)),f32:=func363.trans (congrArg some (by kernel_rfl)),f36:=⟨f379.name,by decide,func379.trans (congrArg some (by kernel_rfl))⟩,f37:=⟨f380.name,by decide,func380.trans (congrArg some (by kernel_rfl))⟩,f38:=⟨f381.name,by decide,func381.trans (congrArg some (by kernel_rfl))⟩,f39:=⟨f382.name,by decide,func382.trans (congrArg some (by kernel_rfl))⟩,f41:=⟨f389.name,by decide,func389.trans (congrArg some (by kernel_rfl))⟩,t0:=underlying0,a0:=isAgg0,z0:=sizeOf0,v0:=zeroValue0,t3:=underlying3,a3:=isAgg3,z3:=sizeOf3,v3:=zeroValue3,t4:=underlying4,a4:=isAgg4,z4:=sizeOf4,v4:=zeroValue4,t5:=underlying5,a5:=isAgg5,z5:=sizeOf5,v5:=zeroValue5,t9:=underlying9,a9:=isAgg9,z9:=sizeOf9,v9:=zeroValue9,t26:=underlying223,a26:=isAgg223,z26:=sizeOf223,v26:=zeroValue223,t27:=underlying223,a27:=isAgg223,z27:=sizeOf223,v27:=zeroValue223,t29:=underlying9,a29:=isAgg9,z29:=sizeOf9,v29:=zeroValue9,t32:=underlying109,a32:=isAgg109,z32:=sizeOf109,v32:=zeroValue109,t35:=underlying413,a35:=isAgg413,z35:=sizeOf413,v35:=zeroValue413,t36:=underlying414,a36:=isAgg414,z36:=sizeOf414,v36:=zeroValue414,t41:=underlying350,a41:=isAgg350,z41:=sizeOf350,v41:=zeroValue350,t44:=underlying30,a44:=isAgg30,z44:=sizeOf30,v44:=zeroValue30,t46:=underlying420,a46:=isAgg420,z46:=sizeOf420,v46:=zeroValue420,t53:=underlying441,a53:=isAgg441,z53:=sizeOf441,v53:=zeroValue441,t57:=underlying397,a57:=isAgg397,z57:=sizeOf397,v57:=zeroValue397,t63:=underlying453,a63:=isAgg453,z63:=sizeOf453,v63:=zeroValue453,t64:=underlying251,a64:=isAgg251,z64:=sizeOf251,v64:=zeroValue251 }
def laySortedI_ren:Go.Shelf.Ren:=⟨fun | 6=>150 | 8=>226 | 9=>227 | 11=>278 | 13=>272 | 12=>279 | 23=>322 | 24=>323 | 14=>326 | 15=>327 | 16=>328 | 17=>329 | 18=>330 | 19=>331 | 20=>288 | 21=>332 | 22=>333 | 25=>366 | 26=>362 | 27=>363 | 28=>367 | 29=>368 | 30=>337 | 31=>385 | n=>n,fun | 26=>3 | 28=>265 | 24=>85 | 0=>0 | 3=>3 | 37=>109 | 48=>30 | 50=>420 | 4=>4 | 40=>414 | 39=>413 | 45=>350 | 5=>5 | 9=>9 | 51=>441 | 55=>397 | 57=>453 | 58=>251 | 33=>82 | n=>n,fun | n=>n⟩
theorem laySortedI:Go.Proofs.SlLaysZI.n6 prog laySortedI_ren:={ mixed:=by kernel_rfl,f6:=⟨f150.name,by decide,func150.trans (congrArg some (by kernel_rfl))⟩,f8:=⟨f226.name,by decide,func226.trans (congrArg some (by kernel_rfl))⟩,f11:=⟨f278.name,by decide,func278.trans (congrArg some (by kernel_rfl))⟩,t0:=underlying0,a0:=isAgg0,z0:=sizeOf0,v0:=zeroValue0,t24:=underlying85,a24:=isAgg85,z24:=sizeOf85,v24:=zeroValue85,t26:=underlying3,a26:=isAgg3,z26:=sizeOf3,v26:=zeroValue3,t28:=underlying265,a28:=isAgg265,z28:=sizeOf265,v28:=zeroValue265,i26:=by kernel_rfl }
def laySortedS_ren:Go.Shelf.Ren:=⟨fun | 6=>206 | 8=>258 | 9=>264 | 11=>305 | 13=>272 | 12=>310 | 23=>322 | 24=>323 | 14=>351 | 15=>352 | 16=>353 | 17=>354 | 18=>355 | 19=>356 | 20=>357 | 21=>358 | 22=>359 | 25=>379 | 26=>362 | 27=>363 | 28=>380 | 29=>381 | 30=>382 | 31=>389 | n=>n,fun | 26=>9 | 28=>322 | 24=>223 | 0=>0 | 3=>3 | 37=>109 | 48=>30 | 50=>420 | 4=>4 | 40=>414 | 39=>413 | 45=>350 | 5=>5 | 9=>9 | 51=>441 | 55=>397 | 57=>453 | 58=>251 | 33=>179 | n=>n,fun | n=>n⟩
theorem laySortedS:Go.Proofs.SlLaysZ.n6 prog laySortedS_ren:={ mixed:=by kernel_rfl,f6:=⟨f206.name,by decide,func206.trans (congrArg some (by kernel_rfl))⟩,f8:=⟨f258.name,by decide,func258.trans (congrArg some (by kernel_rfl))⟩,f11:=⟨f305.name,by decide,func305.trans (congrArg some (by kernel_rfl))⟩,t0:=underlying0,a0:=isAgg0,z0:=sizeOf0,v0:=zeroValue0,t24:=underlying223,a24:=isAgg223,z24:=sizeOf223,v24:=zeroValue223,t26:=underlying9,a26:=isAgg9,z26:=sizeOf9,v26:=zeroValue9,t28:=underlying322,a28:=isAgg322,z28:=sizeOf322,v28:=zeroValue322,i26:=by kernel_rfl }
def layKeysItem_ren:Go.Shelf.Ren:=⟨fun | 10=>228 | n=>n,fun | 33=>82 | 23=>151 | 0=>0 | 4=>4 | 26=>3 | 3=>36 | n=>n,fun | n=>n⟩
theorem layKeysItem:Go.Proofs.SlLaysZI.n10 prog layKeysItem_ren:={ mixed:=by kernel_rfl,f10:=⟨f228.name,by decide,func228.trans (congrArg some (by kernel_rfl))⟩,t0:=underlying0,a0:=isAgg0,z0:=sizeOf0,v0:=zeroValue0,t4:=underlying4,a4:=isAgg4,z4:=sizeOf4,v4:=zeroValue4,t23:=underlying151,a23:=isAgg151,z23:=sizeOf151,v23:=zeroValue151,t26:=underlying3,a26:=isAgg3,z26:=sizeOf3,v26:=zeroValue3,t33:=underlying82,a33:=isAgg82,z33:=sizeOf82,v33:=zeroValue82 }
def layKeysVec_ren:Go.Shelf.Ren:=⟨fun | 10=>266 | n=>n,fun | 33=>82 | 23=>47 | 0=>0 | 4=>4 | 26=>3 | 3=>25 | n=>n,fun | n=>n⟩
theorem layKeysVec:Go.Proofs.SlLaysZI.n10 prog layKeysVec_ren:={ mixed:=by kernel_rfl,f10:=⟨f266.name,by decide,func266.trans (congrArg some (by kernel_rfl))⟩,t0:=underlying0,a0:=isAgg0,z0:=sizeOf0,v0:=zeroValue0,t4:=underlying4,a4:=isAgg4,z4:=sizeOf4,v4:=zeroValue4,t23:=underlying47,a23:=isAgg47,z23:=sizeOf47,v23:=zeroValue47,t26:=underlying3,a26:=isAgg3,z26:=sizeOf3,v26:=zeroValue3,t33:=underlying82,a33:=isAgg82,z33:=sizeOf82,v33:=zeroValue82 }
def layKeysIvf_ren:Go.Shelf.Ren:=⟨fun | 10=>273 | n=>n,fun | 33=>82 | 23=>245 | 0=>0 | 4=>4 | 26=>3 | 3=>249 | n=>n,fun | n=>n⟩
theorem layKeysIvf:Go.Proofs.SlLaysZI.n10 prog layKeysIvf_ren:={ mixed:=by kernel_rfl,f10:=⟨f273.name,by decide,func273.trans (congrArg some (by kernel_rfl))⟩,t0:=underlying0,a0:=isAgg0,z0:=sizeOf0,v0:=zeroValue0,t4:=underlying4,a4:=isAgg4,z4:=sizeOf4,v4:=zeroValue4,t23:=underlying245,a23:=isAgg245,z23:=sizeOf245,v23:=zeroValue245,t26:=underlying3,a26:=isAgg3,z26:=sizeOf3,v26:=zeroValue3,t33:=underlying82,a33:=isAgg82,z33:=sizeOf82,v33:=zeroValue82 }
def layKeysCoded_ren:Go.Shelf.Ren:=⟨fun | 10=>275 | n=>n,fun | 33=>82 | 23=>257 | 0=>0 | 4=>4 | 26=>3 | 3=>262 | n=>n,fun | n=>n⟩
theorem layKeysCoded:Go.Proofs.SlLaysZI.n10 prog layKeysCoded_ren:={ mixed:=by kernel_rfl,f10:=⟨f275.name,by decide,func275.trans (congrArg some (by kernel_rfl))⟩,t0:=underlying0,a0:=isAgg0,z0:=sizeOf0,v0:=zeroValue0,t4:=underlying4,a4:=isAgg4,z4:=sizeOf4,v4:=zeroValue4,t23:=underlying257,a23:=isAgg257,z23:=sizeOf257,v23:=zeroValue257,t26:=underlying3,a26:=isAgg3,z26:=sizeOf3,v26:=zeroValue3,t33:=underlying82,a33:=isAgg82,z33:=sizeOf82,v33:=zeroValue82 }
def layKeysNode_ren:Go.Shelf.Ren:=⟨fun | 10=>324 | n=>n,fun | 33=>82 | 23=>282 | 0=>0 | 4=>4 | 26=>3 | 3=>277 | n=>n,fun | n=>n⟩
theorem layKeysNode:Go.Proofs.SlLaysZI.n10 prog layKeysNode_ren:={ mixed:=by kernel_rfl,f10:=⟨f324.name,by decide,func324.trans (congrArg some (by kernel_rfl))⟩,t0:=underlying0,a0:=isAgg0,z0:=sizeOf0,v0:=zeroValue0,t4:=underlying4,a4:=isAgg4,z4:=sizeOf4,v4:=zeroValue4,t23:=underlying282,a23:=isAgg282,z23:=sizeOf282,v23:=zeroValue282,t26:=underlying3,a26:=isAgg3,z26:=sizeOf3,v26:=zeroValue3,t33:=underlying82,a33:=isAgg82,z33:=sizeOf82,v33:=zeroValue82 }
def layKeysCol_ren:Go.Shelf.Ren:=⟨fun | 10=>265 | n=>n,fun | 33=>179 | 23=>111 | 0=>0 | 4=>4 | 26=>9 | 3=>87 | n=>n,fun | n=>n⟩
theorem layKeysCol:Go.Proofs.SlLaysZ.n10 prog layKeysCol_ren:={ mixed:=by kernel_rfl,f10:=⟨f265.name,by decide,func265.trans (congrArg some (by kernel_rfl))⟩,t0:=underlying0,a0:=isAgg0,z0:=sizeOf0,v0:=zeroValue0,t4:=underlying4,a4:=isAgg4,z4:=sizeOf4,v4:=zeroValue4,t23:=underlying111,a23:=isAgg111,z23:=sizeOf111,v23:=zeroValue111,t26:=underlying9,a26:=isAgg9,z26:=sizeOf9,v26:=zeroValue9,t33:=underlying179,a33:=isAgg179,z33:=sizeOf179,v33:=zeroValue179 }
def laySortHit_ren:Go.Shelf.Ren:=⟨fun | 6=>215 | 15=>272 | 14=>271 | 28=>322 | 29=>323 | 20=>314 | 21=>315 | 22=>316 | 23=>317 | 24=>318 | 25=>319 | 26=>320 | 27=>321 | 46=>361 | 47=>362 | 48=>363 | 49=>364 | 50=>365 | 57=>384 | n=>n,fun | 22=>37 | 24=>72 | 25=>336 | 3=>3 | 39=>109 | 0=>0 | 53=>30 | 55=>420 | 4=>4 | 46=>414 | 45=>413 | 50=>350 | 5=>5 | 9=>9 | 66=>441 | 70=>397 | 76=>453 | 77=>251 | n=>n,fun | n=>n⟩
theorem laySortHit:Go.Proofs.SlLaysF0.n6 prog laySortHit_ren:={ mixed:=by kernel_rfl,f6:=⟨f215.name,by decide,func215.trans (congrArg some (by kernel_rfl))⟩,f14:=⟨f271.name,by decide,func271.trans (congrArg some (by kernel_rfl))⟩,f15:=func272.trans (congrArg some (by kernel_rfl)),f20:=⟨f314.name,by decide,func314.trans (congrArg some (by kernel_rfl))⟩,f21:=⟨f315.name,by decide,func315.trans (congrArg some (by kernel_rfl))⟩,f22:=⟨f316.name,by decide,func316.trans (congrArg some (by kernel_rfl))⟩,f23:=⟨f317.name,by decide,func317.trans (congrArg some (by kernel_rfl))⟩,f24:=⟨f318.name,by decide,func318.trans (congrArg some (by kernel_rfl))⟩,f25:=⟨f319.name,by decide,func319.trans (congrArg some (by kernel_rfl))⟩,f26:=⟨f320.name,by decide,func320.trans (congrArg some (by kernel_rfl))⟩,f27:=⟨f321.name,by decide,func321.trans (congrArg some (by kernel_rfl))⟩,f28:=func322.trans (congrArg some (by kernel_rfl)),f29:=func323.trans (congrArg some (by kernel_rfl)),f46:=⟨f361.name,by decide,func361.trans (congrArg some (by kernel_rfl))⟩,f47:=func362.trans (congrArg some (by kernel_rfl)),f48:=func363.trans (congrArg some (by kernel_rfl)),f49:=⟨f364.name,by decide,func364.trans (congrArg some (by kernel_rfl))⟩,f50:=⟨f365.name,by decide,func365.trans (congrArg some (by kernel_rfl))⟩,f57:=⟨f384.name,by decide,func384.trans (congrArg some (by kernel_rfl))⟩,t0:=underlying0,a0:=isAgg0,z0:=sizeOf0,v0:=zeroValue0,t3:=underlying3,a3:=isAgg3,z3:=sizeOf3,v3:=zeroValue3,t4:=underlying4,a4:=isAgg4,z4:=sizeOf4,v4:=zeroValue4,t5:=underlying5,a5:=isAgg5,z5:=sizeOf5,v5:=zeroValue5,t9:=underlying9,a9:=isAgg9,z9:=sizeOf9,v9:=zeroValue9,t22:=underlying37,a22:=isAgg37,z22:=sizeOf37,v22:=zeroValue37,t25:=underlying336,a25:=isAgg336,z25:=sizeOf336,v25:=zeroValue336,t39:=underlying109,a39:=isAgg109,z39:=sizeOf109,v39:=zeroValue109,t45:=underlying413,a45:=isAgg413,z45:=sizeOf413,v45:=zeroValue413,t46:=underlying414,a46:=isAgg414,z46:=sizeOf414,v46:=zeroValue414,t50:=underlying350,a50:=isAgg350,z50:=sizeOf350,v50:=zeroValue350,t53:=underlying30,a53:=isAgg30,z53:=sizeOf30,v53:=zeroValue30,t55:=underlying420,a55:=isAgg420,z55:=sizeOf420,v55:=zeroValue420,t66:=underlying441,a66:=isAgg441,z66:=sizeOf441,v66:=zeroValue441,t70:=underlying397,a70:=isAgg397,z70:=sizeOf397,v70:=zeroValue397,t76:=underlying453,a76:=isAgg453,z76:=sizeOf453,v76:=zeroValue453,t77:=underlying251,a77:=isAgg251,z77:=sizeOf251,v77:=zeroValue251 }
open Go.RowKit Go.MapKept
def i64k (k:Int):Value:=.int .i64 k
theorem i64k_inj {a b:Int}(h:i64k a=i64k b):a=b:=by simpa [i64k] using h
section
variable {P:Program}{n:Nat}{c:Ctx}{Q:Exit->Act->World->Prop}{e:Env}{h:Heap}{ops:Array Oper}{rest:List Oper}{d ty:Nat}{pos:String}{af:Array Edge}
theorem St.setMap {w:World}{b:Nat}{o o':Obj}{h':Heap}(s:St c h w)(tk:Take [⟨b,o⟩] h h')(hb:w.heap[b]?=some o):St c ([⟨b,o'⟩]::h') { w with heap:=w.heap.setIfInBounds b o' }:=
 s.set tk rfl rfl rfl (by simp) (heap_set hb).1 (fun k hk=>(heap_set (o':=o') hb).2 k hk)
end
end Go.Proofs.YtnlpccoigflheaaGreatDoor
