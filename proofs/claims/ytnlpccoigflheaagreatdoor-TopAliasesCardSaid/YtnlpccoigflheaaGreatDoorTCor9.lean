/- TCor6 TCor7 TCor8 TCor9 -/
import Derived.Test.YtnlpccoigflheaaGreatDoorTCor5
import Derived.Test.YtnlpccoigflheaaGreatDoorFac
namespace Go.Proofs.YtnlpccoigflheaaGreatDoor
open Go.RowKit
open Go.Proofs.Tryz
def TuM:Tbl:=⟨[(32,0,0),(32,1,1),(32,2,2),(32,4,4),(32,5,5),(32,6,6),(93,0,0),(114,0,0),(114,1,1),(114,2,2)],[52],[]⟩
theorem uM:TuM.Ok Tryz.prog:=.of trivial
section
variable (W:World)(B:Nat)
theorem core_names (p:Nat)(c:CorP)(rows im:List Row)(vv:Value)(o:OpP)(hc:CorR W B im p c rows)(hv:VecAt W B im vv o.vec)(hnl:o.name.length<=1000000)(he:namesE c o=0) :
   Spec prog W B 84 [ptr p,opV vv o] rows (fun r post=>r=.int .i64 0/\post=rows):=by
 have hbx:=opV_cells hv o
 obtain⟨mv,chm,av,cha,es,cs,h1,h2,h3,rfl,h5⟩:=hc
 unfold namesE at he
 split at he
 . cases he
 rename_i e1
 have hnm:nameOk o.name=true:=by cases hq:nameOk o.name with | true=>rfl | false=>exact absurd hq e1
 by_cases hce:o.col=[]
 . rw [if_pos hce] at he
   cases haa:aget c.alias o.name with
   | none=>rw [haa] at he;cases he
   | some u=>
   refine Spec.eG [[cr p 114 (corC mv av c)],chm,cha,cs.flatten] func84 ntmps84 fun w0=>?_
   refine CW.go uM 2 rfl (LW.bx ?_)
   intro bb3
   refine LW.go uM 4 rfl ?_
   rw [hbx]
   refine CW.drawH [cr p 114 (corC mv av c),cr bb3 32 (opC vv o)] mixed ?_
   refine AW.ts [0,1,2,3,4,5] 6 (TW.mv ?_)
   refine TW.np ?_
   refine TW.fa fa114_2 ?_
   refine TW.ld one34 ?_
   refine TW.fa fa32_2 ?_
   refine TW.ld one9 ?_
   refine TW.nil (AW.a 6 ?_)
   refine LW.mapLookG true ( (mget (alV c.alias) o.name)) rfl rfl keyStr (h3) .t underlying34 underlying9 zero9 (rfl) rfl ?_
   simp only [alV_get,haa,if_true,Option.map_some,Option.getD_some,Option.isSome_some]
   refine LW.nil (AW.b (AW.ts [7,8,9,10,11] 0 (TW.mv ?_)))
   refine TW.take rfl (Yl.extract rfl rfl) rfl ?_
   refine TW.take rfl (Yl.extract rfl rfl) rfl ?_
   refine TW.as ?_
   refine TW.as ?_
   refine TW.nil (AW.d ?_)
   refine NW.go uM 6 rfl (LW.ld one9 ?_)
   refine LW.eT (core_name W B o.name hnl) cl152 ((Take.none _)) ?_
   rw [hnm]
   refine LW.go uM 8 rfl (LW.ld one9 ?_)
   refine LW.strEql (true) rfl rfl underlying9 (decide_eq_true (by simp [hce])) rfl ?_
   refine LW.go uM 13 rfl (LW.ld one9 ?_)
   refine LW.strEql (true) rfl rfl underlying9 (decide_eq_true (by simp [hce])) rfl ?_
   refine LW.go uM 12 rfl ?_
   refine NW.r1 ⟨_,⟨rfl,rfl⟩,?_⟩
   exact .s4
 . rw [if_neg hce] at he
   split at he
   . cases he
   rename_i e2
   split at he
   . cases he
   rename_i e3
   split at he
   . cases he
   rename_i e4
   obtain⟨x,hax⟩:∃ x,aget c.cols o.col=some x:=by cases hq:aget c.cols o.col with | none=>exact absurd (by rw [hq];rfl) e2 | some x=>exact⟨x,rfl⟩
   have han:aget c.cols o.name=none:=by cases hq:aget c.cols o.name with | none=>rfl | some x=>exact absurd (by rw [hq];rfl) e3
   obtain⟨i,q,rc,hg,hci,hcr,_⟩:=h2.get hax
   have hal:(alV c.alias).length=c.alias.length:=by simp [alV]
   cases haa:aget c.alias o.name with
   | none=>
     have hlen:¬ (c.alias.length>=6):=fun h=>e4 ⟨by rw [haa];rfl,h⟩
     refine Spec.eG [[cr p 114 (corC mv av c)],chm,cha,cs.flatten] func84 ntmps84 fun w0=>?_
     refine CW.go uM 2 rfl (LW.bx ?_)
     intro bb3
     refine LW.go uM 4 rfl ?_
     rw [hbx]
     refine CW.drawH [cr p 114 (corC mv av c),cr bb3 32 (opC vv o)] mixed ?_
     refine AW.ts [0,1,2,3,4,5] 6 (TW.mv ?_)
     refine TW.np ?_
     refine TW.fa fa114_2 ?_
     refine TW.ld one34 ?_
     refine TW.fa fa32_2 ?_
     refine TW.ld one9 ?_
     refine TW.nil (AW.a 6 ?_)
     refine LW.mapLookG true ( (mget (alV c.alias) o.name)) rfl rfl keyStr (h3) .t underlying34 underlying9 zero9 (rfl) rfl ?_
     simp only [alV_get,haa,if_true,Option.map_none,Option.getD_none,Option.isSome_none]
     refine LW.nil (AW.b (AW.ts [7,8,9,10,11] 0 (TW.mv ?_)))
     refine TW.take rfl (Yl.extract rfl rfl) rfl ?_
     refine TW.take rfl (Yl.extract rfl rfl) rfl ?_
     refine TW.as ?_
     refine TW.as ?_
     refine TW.nil (AW.d ?_)
     refine NW.go uM 6 rfl (LW.ld one9 ?_)
     refine LW.eT (core_name W B o.name hnl) cl152 ((Take.none _)) ?_
     rw [hnm]
     refine LW.go uM 8 rfl (LW.ld one9 ?_)
     refine LW.strEql (false) rfl rfl underlying9 (decide_eq_false (by simp [hce])) rfl ?_
     refine LW.go uM 11 rfl (LW.ld one9 ?_)
     refine LW.strEql (false) rfl rfl underlying9 (decide_eq_false (by simp [hce])) rfl ?_
     refine LW.go uM 5 rfl (CW.drawH [cr p 114 (corC mv av c),cr bb3 32 (opC vv o)] mixed ?_)
     refine AW.ts [0,1,2,3,4,5] 3 (TW.mv ?_)
     refine TW.np ?_
     refine TW.fa fa114_1 ?_
     refine TW.ld one111 ?_
     refine TW.fa fa32_1 ?_
     refine TW.ld one9 ?_
     refine TW.nil (AW.a 6 ?_)
     refine LW.mapLookG false ( (mget (esC es) o.col)) rfl rfl keyStr (h1) .t underlying111 underlying9 zero87 (rfl) rfl ?_
     simp only [hg,Bool.false_eq_true,if_false,Option.getD_some]
     refine LW.nil (AW.b (AW.ts [7,8] 0 (TW.take rfl (Yl.ptrNil false rfl underlying87 rfl) rfl ?_)))
     refine TW.as ?_
     refine TW.nil (AW.d ?_)
     refine NW.go uM 3 rfl (CW.drawH [cr p 114 (corC mv av c),cr bb3 32 (opC vv o)] mixed ?_)
     refine AW.ts [0,1,2,3,4,5] 3 (TW.mv ?_)
     refine TW.np ?_
     refine TW.fa fa114_1 ?_
     refine TW.ld one111 ?_
     refine TW.fa fa32_2 ?_
     refine TW.ld one9 ?_
     refine TW.nil (AW.a 6 ?_)
     refine LW.mapLookG false ( (mget (esC es) o.name)) rfl rfl keyStr (h1) .t underlying111 underlying9 zero87 (rfl) rfl ?_
     simp only [h2.miss han,Bool.false_eq_true,if_false,Option.getD_none]
     refine LW.nil (AW.b (AW.ts [7,8] 0 (TW.take rfl (Yl.ptrNotNil false rfl underlying87 rfl) rfl ?_)))
     refine TW.as ?_
     refine TW.nil (AW.d ?_)
     refine NW.go uM 14 rfl (LW.ld one34 ?_)
     refine LW.go uM 1 rfl (LW.mapLenG rfl (h3) .t underlying34 rfl ?_)
     refine LW.go uM 1 rfl (LW.geq false rfl rfl (decide_eq_false (by rw [hal];omega)) rfl ?_)
     refine LW.go uM 14 rfl ?_
     refine NW.r1 ⟨_,⟨rfl,rfl⟩,?_⟩
     exact .s4
   | some u=>
     refine Spec.eG [[cr p 114 (corC mv av c)],chm,cha,cs.flatten] func84 ntmps84 fun w0=>?_
     refine CW.go uM 2 rfl (LW.bx ?_)
     intro bb3
     refine LW.go uM 4 rfl ?_
     rw [hbx]
     refine CW.drawH [cr p 114 (corC mv av c),cr bb3 32 (opC vv o)] mixed ?_
     refine AW.ts [0,1,2,3,4,5] 6 (TW.mv ?_)
     refine TW.np ?_
     refine TW.fa fa114_2 ?_
     refine TW.ld one34 ?_
     refine TW.fa fa32_2 ?_
     refine TW.ld one9 ?_
     refine TW.nil (AW.a 6 ?_)
     refine LW.mapLookG true ( (mget (alV c.alias) o.name)) rfl rfl keyStr (h3) .t underlying34 underlying9 zero9 (rfl) rfl ?_
     simp only [alV_get,haa,if_true,Option.map_some,Option.getD_some,Option.isSome_some]
     refine LW.nil (AW.b (AW.ts [7,8,9,10,11] 0 (TW.mv ?_)))
     refine TW.take rfl (Yl.extract rfl rfl) rfl ?_
     refine TW.take rfl (Yl.extract rfl rfl) rfl ?_
     refine TW.as ?_
     refine TW.as ?_
     refine TW.nil (AW.d ?_)
     refine NW.go uM 6 rfl (LW.ld one9 ?_)
     refine LW.eT (core_name W B o.name hnl) cl152 ((Take.none _)) ?_
     rw [hnm]
     refine LW.go uM 8 rfl (LW.ld one9 ?_)
     refine LW.strEql (false) rfl rfl underlying9 (decide_eq_false (by simp [hce])) rfl ?_
     refine LW.go uM 11 rfl (LW.ld one9 ?_)
     refine LW.strEql (false) rfl rfl underlying9 (decide_eq_false (by simp [hce])) rfl ?_
     refine LW.go uM 5 rfl (CW.drawH [cr p 114 (corC mv av c),cr bb3 32 (opC vv o)] mixed ?_)
     refine AW.ts [0,1,2,3,4,5] 3 (TW.mv ?_)
     refine TW.np ?_
     refine TW.fa fa114_1 ?_
     refine TW.ld one111 ?_
     refine TW.fa fa32_1 ?_
     refine TW.ld one9 ?_
     refine TW.nil (AW.a 6 ?_)
     refine LW.mapLookG false ( (mget (esC es) o.col)) rfl rfl keyStr (h1) .t underlying111 underlying9 zero87 (rfl) rfl ?_
     simp only [hg,Bool.false_eq_true,if_false,Option.getD_some]
     refine LW.nil (AW.b (AW.ts [7,8] 0 (TW.take rfl (Yl.ptrNil false rfl underlying87 rfl) rfl ?_)))
     refine TW.as ?_
     refine TW.nil (AW.d ?_)
     refine NW.go uM 3 rfl (CW.drawH [cr p 114 (corC mv av c),cr bb3 32 (opC vv o)] mixed ?_)
     refine AW.ts [0,1,2,3,4,5] 3 (TW.mv ?_)
     refine TW.np ?_
     refine TW.fa fa114_1 ?_
     refine TW.ld one111 ?_
     refine TW.fa fa32_2 ?_
     refine TW.ld one9 ?_
     refine TW.nil (AW.a 6 ?_)
     refine LW.mapLookG false ( (mget (esC es) o.name)) rfl rfl keyStr (h1) .t underlying111 underlying9 zero87 (rfl) rfl ?_
     simp only [h2.miss han,Bool.false_eq_true,if_false,Option.getD_none]
     refine LW.nil (AW.b (AW.ts [7,8] 0 (TW.take rfl (Yl.ptrNotNil false rfl underlying87 rfl) rfl ?_)))
     refine TW.as ?_
     refine TW.nil (AW.d ?_)
     refine NW.go uM 27 rfl ?_
     refine NW.r1 ⟨_,⟨rfl,rfl⟩,?_⟩
     exact .s4
end
open Go.RowKit
section
variable (W:World)(B:Nat)
theorem core_can1 (p:Nat)(c:CorP)(rows im:List Row)(vv:Value)(o:OpP)(hc:CorR W B im p c rows)(hv:VecAt W B im vv o.vec)(hk:o.kind=1)(hl:o.col.length<=1000000)(he:createE c o=0) :
  Spec prog W B 38 [ptr p,opV vv o] (rows++im) (fun r post=>r=.int .i64 0/\post=rows++im):=by
 have hbx:=opV_cells hv o
 have hv1:=hv.one
 refine Spec.eG [rows,im] func38 ntmps38 fun w0=>?_
 refine CW.go uM 2 rfl (LW.bx ?_)
 intro bb3
 refine LW.go uM 5 rfl ?_
 rw [hbx]
 refine CW.go uM 2 rfl (LW.load (v:=.int .i64 1) rfl .t (by rw [<- hk];rfl) one3 rfl ?_)
 refine LW.go uM 5 rfl (LW.eqlT ?_)
 refine LW.go uM 7 rfl (LW.lA (opC vv o) underlying32 szt32 ?_)
 refine LW.eT (core_create W B p c rows im vv o hc hv hl he) cl80 .n2 ?_
 refine LW.go uM 6 rfl ?_
 refine NW.r1 ⟨_,⟨rfl,rfl⟩,?_⟩
 exact (Sub.one .t)
theorem core_can2 (p:Nat)(c:CorP)(rows im:List Row)(vv:Value)(o:OpP)(hc:CorR W B im p c rows)(hv:VecAt W B im vv o.vec)(hk:o.kind=2)(hs:(aget c.cols o.col).isSome=true) :
  Spec prog W B 38 [ptr p,opV vv o] (rows++im) (fun r post=>r=.int .i64 (if c.alias.any (fun y=>y.2==o.col) then 4 else 0)/\post=rows++im):=by
 have hbx:=opV_cells hv o
 have hv1:=hv.one
 refine Spec.eG [rows,im] func38 ntmps38 fun w0=>?_
 refine CW.go uM 2 rfl (LW.bx ?_)
 intro bb3
 refine LW.go uM 5 rfl ?_
 rw [hbx]
 refine CW.go uM 2 rfl (LW.load (v:=.int .i64 2) rfl .t (by rw [<- hk];rfl) one3 rfl ?_)
 refine LW.go uM 5 rfl (LW.eqlF ?_)
 refine LW.go uM 6 rfl (LW.eqlT ?_)
 refine LW.go uM 7 rfl (LW.lA (opC vv o) underlying32 szt32 ?_)
 refine LW.eT (core_drop W B p c rows im vv o hc hv hs) cl81 .n2 ?_
 refine LW.go uM 6 rfl ?_
 refine NW.r1 ⟨_,⟨rfl,rfl⟩,?_⟩
 exact (Sub.one .t)
theorem core_can3 (p:Nat)(c:CorP)(rows im:List Row)(vv:Value)(o:OpP)(hc:CorR W B im p c rows)(hv:VecAt W B im vv o.vec)(hk:o.kind=3)(hpl:o.pay.length<=1000000)(hvl:o.vec.length<=1000000)(he:putE c o=0) :
  Spec prog W B 38 [ptr p,opV vv o] (rows++im) (fun r post=>r=.int .i64 0/\post=rows++im):=by
 have hbx:=opV_cells hv o
 have hv1:=hv.one
 refine Spec.eG [rows,im] func38 ntmps38 fun w0=>?_
 refine CW.go uM 2 rfl (LW.bx ?_)
 intro bb3
 refine LW.go uM 5 rfl ?_
 rw [hbx]
 refine CW.go uM 2 rfl (LW.load (v:=.int .i64 3) rfl .t (by rw [<- hk];rfl) one3 rfl ?_)
 refine LW.go uM 5 rfl (LW.eqlF ?_)
 refine LW.go uM 6 rfl (LW.eqlF ?_)
 refine LW.go uM 6 rfl (LW.eqlT ?_)
 refine LW.go uM 7 rfl (LW.lA (opC vv o) underlying32 szt32 ?_)
 refine LW.eT (core_put W B p c rows im vv o hc hv hpl hvl he) cl82 .n2 ?_
 refine LW.go uM 6 rfl ?_
 refine NW.r1 ⟨_,⟨rfl,rfl⟩,?_⟩
 exact (Sub.one .t)
theorem core_can5 (p:Nat)(c:CorP)(rows im:List Row)(vv:Value)(o:OpP)(hc:CorR W B im p c rows)(hv:VecAt W B im vv o.vec)(hk:o.kind=5)(hnl:o.name.length<=1000000)(he:namesE c o=0) :
  Spec prog W B 38 [ptr p,opV vv o] (rows++im) (fun r post=>r=.int .i64 0/\post=rows++im):=by
 have hbx:=opV_cells hv o
 have hv1:=hv.one
 refine Spec.eG [rows,im] func38 ntmps38 fun w0=>?_
 refine CW.go uM 2 rfl (LW.bx ?_)
 intro bb3
 refine LW.go uM 5 rfl ?_
 rw [hbx]
 refine CW.go uM 2 rfl (LW.load (v:=.int .i64 5) rfl .t (by rw [<- hk];rfl) one3 rfl ?_)
 refine LW.go uM 5 rfl (LW.eqlF ?_)
 refine LW.go uM 6 rfl (LW.eqlF ?_)
 refine LW.go uM 6 rfl (LW.eqlF ?_)
 refine LW.go uM 6 rfl (LW.eqlF ?_)
 refine LW.go uM 6 rfl (LW.eqlT ?_)
 refine LW.go uM 7 rfl (LW.lA (opC vv o) underlying32 szt32 ?_)
 refine LW.eG (core_names W B p c rows im vv o hc hv hnl he) cl84 ?_
 refine LW.go uM 6 rfl ?_
 refine NW.r1 ⟨_,⟨rfl,rfl⟩,?_⟩
 exact .s2
theorem core_Can (p:Nat)(rows im:List Row)(vv:Value)(o:OpP)(e:Int)(hv:VecAt W B im vv o.vec)(h:Spec prog W B 38 [ptr p,opV vv o] (rows++im) (fun r post=>r=.int .i64 e/\post=rows++im)) :
  Spec prog W B 18 [ptr p,opV vv o] (rows++im) (fun r post=>∃ ch,ErrR r e ch/\post=ch++(rows++im)):=by
 have hbx:=opV_cells hv o
 have hv1:=hv.one
 refine Spec.eG [rows++im] func18 ntmps18 fun w0=>?_
 refine CW.go uM 2 rfl (LW.bx ?_)
 intro bb3
 refine LW.go uM 5 rfl ?_
 rw [hbx]
 refine CW.go uM 2 rfl (LW.pn underlying60 ?_)
 refine LW.go uM 8 rfl (LW.lA (opC vv o) underlying32 szt32 ?_)
 refine LW.eG (h) cl38 ?_
 refine LW.go uM 1 rfl (LW.cT (core_atN W B e) cl32 ((Take.none _)) ?_)
 rintro r ch he
 refine LW.go uM 4 rfl ?_
 refine NW.r1 ⟨_,⟨ch,he,rfl⟩,?_⟩
 exact .s2
end
open Go.RowKit
theorem Sub.viaL {p q:List Row}(f:∀ z,z=p->Sub z q):Sub p q:=f _ rfl
theorem range_sub:∀ (n:Nat) (l:List Nat),(∀ j,j<n->j∈l)->n<=l.length
 | 0,_,_=>Nat.zero_le _
 | n+1,l,h=>by
  have h1:=range_sub n (l.erase n) fun j hj=>(List.mem_erase_of_ne (by omega)).2 (h j (by omega))
  have h2:=h n (by omega)
  rw [List.length_erase_of_mem h2] at h1
  have:0<l.length:=List.length_pos_of_mem h2
  omega
theorem ColsR.app {W:World}{B:Nat}{im:List Row}{k:Nm}{q:Nat}{x:ColP}{c:List Row}(h:ColR W B im q x c):∀ {es:List (Nm×Nat)} {g:List (Nm×ColP)} {cs:List (List Row)},ColsR W B im es g cs->ColsR W B im (es++[(k,q)]) (g++[(k,x)]) (cs++[c])
 | [],[],[],_=>⟨rfl,h,trivial⟩
 | [],_::_,_,h=>h.elim
 | [],[],_::_,h=>h.elim
 | _::_,[],_,h=>h.elim
 | _::_,_::_,[],h=>h.elim
 | _::_,_::_,_::_,⟨h1,h2,h3⟩=>⟨h1,h2,ColsR.app h h3⟩
def colN (o:OpP)(pl:Nat):ColP:=⟨pl,o.dim.toNat,o.metric,[],⟨o.metric,o.dim.toNat,.flat []⟩⟩
def createQ (c:CorP)(o:OpP)(pl:Nat):CorP:={ c with cols:=c.cols++[(o.col,colN o pl)] }
theorem createQ_ok {c:CorP}{o:OpP}{pl:Nat}(h:CorOk c)(hn:aget c.cols o.col=none)(hp:pl∉c.cols.map (·.2.place))(hl:c.cols.length<4):CorOk (createQ c o pl):=by
 refine⟨h.mv,h.of_,?_,?_,?_,?_,h.al,h.s0,fun y hy=>?_⟩
 . unfold createQ
   simp only [List.map_append,List.map_cons,List.map_nil]
   rw [List.nodup_append]
   exact⟨h.nd,by simp,fun a ha b hb=>by simp at hb;subst hb;exact fun he=>aget_none.1 hn (he ▸ ha)⟩
 . unfold createQ
   simp only [List.map_append,List.map_cons,List.map_nil]
   rw [List.nodup_append]
   exact⟨h.pl,by simp,fun a ha b hb=>by simp at hb;subst hb;exact fun he=>hp (he ▸ ha)⟩
 . have:usedP (createQ c o pl)=usedP c:=by
     unfold usedP createQ colBlocks movesP
     simp only [h.mv,List.map_append,List.map_cons,List.map_nil,List.sum_append]
     simp [colN,blocksP,IxP.kind,stoLen,stoItems,sI]
   rw [this];exact h.used
 . unfold createQ
   simp
   omega
 . unfold createQ at hy
   rcases List.mem_append.1 hy with hy | hy
   . exact h.sq y hy
   . simp at hy;subst hy;exact fun it hi=>by cases hi
section
variable (W:World)(B:Nat)
set_option maxHeartbeats 1000000 in
theorem core_made (p:Nat)(c:CorP)(rows im:List Row)(vv:Value)(o:OpP)(hc:CorR W B im p c rows)(hv:VecAt W B im vv o.vec)(hn:aget c.cols o.col=none)(hl:c.cols.length<4)(hi:o.index=1)(hd1:1<=o.dim)(hd8:o.dim<=8)(hme:MetOk o.metric) :
   Spec prog W B 47 [ptr p,opV vv o] (rows++im) (fun r post=>r=.tuple #[]/\∃ pl rows' ch,CorR W B (ch++im) p (createQ c o pl) rows'/\post=rows'++(ch++im)):=by
 have hc':=hc
 have hbx:=opV_cells hv o
 obtain⟨mv,chm,av,cha,es,cs,h1,h2,h3,rfl,h5⟩:=hc
 have hkeys:=h2.keys.1
 have hag:∀ y∈c.cols,aget c.cols y.1=some y.2:=fun y hy=>aget_of_mem h5.nd hy
 have hple:(esC es).map (fun y=>plOf c y.1)=c.cols.map (·.2.place):=by
   have:(esC es).map (fun y=>plOf c y.1)=((esC es).map (·.1)).map (plOf c):=by rw [List.map_map];rfl
   rw [this,hkeys,col_sum (plOf c) (fun y=>y.2.place) fun y hy=>by unfold plOf;rw [hag y hy]]
 obtain⟨bm,hbm⟩:=h1.shape
 subst hbm
 have hdm:o.dim=((o.dim.toNat:Nat):Int):=by omega
 refine Spec.eG [[cr p 114 (corC (.map (some bm)) av c)],chm,cha,cs.flatten,im] func47 ntmps47 fun w0=>?_
 refine CW.go uM 2 rfl (LW.bx ?_)
 intro bb3
 refine LW.go uM 3 rfl ?_
 rw [hbx]
 refine CW.go uM 1 rfl (LW.mapMakeG i64k rfl ?_)
 intro tv tch hom;obtain⟨bt,hbt⟩:=hom.shape;subst hbt
 refine LW.go uM 9 rfl (LW.load (v:=.map (some bm)) rfl .t (rfl) one111 rfl ?_)
 refine LW.rangeG rfl h1 .t underlying111 rfl ?_
 intro r15 row hit
 refine LW.go uM 3 rfl ?_
 refine CW.loopG (fun st:List (Nm×Value)×List Row×List (Int×Value)×List Row=>[(4,.map (some bt)),(15,ptr r15),(0,ptr p),(3,ptr bb3)]) (fun st=>[st.2.1,st.2.2.2,[cr p 114 (corC (.map (some bm)) av c)],chm,cha,cs.flatten,im,[cr bb3 32 (opC vv o)]]) (fun st=>IterR strV (.map (some bm)) chm r15 st.1 st.2.1/\OwnMap i64k (.map (some bt)) st.2.2.1 st.2.2.2/\(∀ y∈st.1,y∈esC es)/\(∀ y∈esC es,y∈st.1\/mget st.2.2.1 (plOf c y.1:Int)=some (.bool true))/\∀ k,mget st.2.2.1 k=none\/(mget st.2.2.1 k=some (.bool true)/\∃ y∈esC es,k=(plOf c y.1:Int))) (fun st=>st.1.length) (esC es,row,[],tch) (by exact⟨hit,hom,fun _ h=>h,fun y hy=>.inl hy,fun k=>.inl rfl⟩) rfl (by repeat' constructor) ?_
 rintro⟨todo,row,lt,tch⟩ ⟨hit,hom,hsub,hdn,hks⟩;dsimp only at hit hom hsub hdn hks |-
 refine CW.go uM 2 rfl (LW.nextG rfl hit .t .t rfl ?_)
 intro v16 h16 hR16
 rcases hR16 with ⟨htd,rfl,rfl⟩ | ⟨y,todo',row',hpm,hat,rfl,rfl⟩
 . refine LW.go uM 7 rfl (NW.then_exit (NW.go uM 3 rfl ?_))
   subst htd
   have hall:∀ y∈esC es,mget lt (plOf c y.1:Int)=some (.bool true):=fun y hy=>(hdn y hy).resolve_left (by simp)
   have hesl:(esC es).length=c.cols.length:=by have:=congrArg List.length hkeys;simpa using this
   refine CW.go uM 6 rfl ?_
   refine CW.loopG (fun k:Nat=>[(7,.int .i64 (k:Int)),(4,.map (some bt)),(0,ptr p),(3,ptr bb3)]) (fun _=>[tch,[cr p 114 (corC (.map (some bm)) av c)],chm,cha,cs.flatten,im,[cr bb3 32 (opC vv o)]]) (fun k=>∀ j,j<k->j∈(esC es).map fun y=>plOf c y.1) (fun k=>5-k) 0 (by exact fun j hj=>absurd hj (Nat.not_lt_zero _)) rfl (by repeat' constructor) ?_
   rintro k hk
   refine CW.go uM 5 rfl (LW.mapLookG false ( (mget lt (k:Int))) rfl rfl keyInt (hom) .t underlying173 underlying3 zero4 (rfl) rfl ?_)
   have hk3:=range_sub k _ hk
   rw [List.length_map,hesl] at hk3
   have hlk:∃ bb,(if false=true then Value.tuple #[(mget lt (k:Int)).getD (.bool false),.bool (mget lt (k:Int)).isSome] else (mget lt (k:Int)).getD (.bool false))=.bool bb/\(bb=true->k∈(esC es).map fun y=>plOf c y.1)/\(bb=false->k∉(esC es).map fun y=>plOf c y.1):=by
     rcases hks (k:Int) with hz | ⟨hz,y,hy,hky⟩
     . refine⟨false,by rw [hz];rfl,fun h=>(by cases h),fun _ hm=>?_⟩
       obtain⟨y,hy,hyk⟩:=List.mem_map.1 hm
       have:=hall y hy
       rw [hyk,hz] at this
       cases this
     . exact⟨true,by rw [hz];rfl,fun _=>List.mem_map.2 ⟨y,hy,by omega⟩,fun h=>by cases h⟩
   obtain⟨bb,hbb,hbt1,hbf1⟩:=hlk
   rw [hbb]
   refine LW.go uM 2 rfl ?_
   refine CW.cond rfl (fun hc27=>?_) (fun hc27=>?_)
   . refine CW.go uM 5 rfl (LW.ad (((k+1:Nat):Int)) ?_)
     exact LW.go uM 3 rfl (NW.mG (k+1) (by exact⟨fun j hj=>(by by_cases he:j=k;subst he;exact hbt1 hc27;exact hk j (by omega)),by omega⟩))
   . have hkn:=hbf1 hc27
     rw [hple] at hkn
     refine CW.go uM 2 rfl (NW.then_exit (NW.go uM 5 rfl (LW.load (v:=.int .i64 1) rfl .t (by rw [<- hi];rfl) one3 rfl ?_)))
     refine LW.go uM 1 rfl (LW.ld one3 ?_)
     refine LW.go uM 1 rfl (LW.load (v:=.int .i64 (o.dim.toNat:Int)) rfl .t (by rw [<- hdm];rfl) one3 rfl ?_)
     refine LW.cT (idx_New W B 1 o.metric o.dim.toNat [] (.slice none 0 0) [] (by decide) (by decide) hme (by omega) (by omega) ⟨SlAt.nil,fun x hx=>(by cases hx)⟩ (by decide) (fun x hx=>by cases hx)) cl93 ((Take.none _)) ?_
     rintro _ _ ⟨px,rx,bx,rfl,hx,rfl⟩;rw [List.append_nil];refine LW.splitA ?_
     refine LW.go uM 7 rfl (CW.drawH [cr p 114 (corC (.map (some bm)) av c),cr bb3 32 (opC vv o)] mixed ?_)
     refine AW.ts [0,1,2,3,4,5,6,7,8,9,10,12] 4 (TW.mv ?_)
     refine TW.np ?_
     refine TW.fa fa114_1 ?_
     refine TW.ld one111 ?_
     refine TW.fa fa32_1 ?_
     refine TW.ld one9 ?_
     refine TW.mv ?_
     refine TW.fa fa32_4 ?_
     refine TW.take rfl (Yl.load (v:=.int .i64 (o.dim.toNat:Int)) rfl (by repeat (first | exact List.Mem.head _ | refine List.Mem.tail _ ?_)) (by rw [<- hdm];rfl) one3) rfl ?_
     refine TW.fa fa32_5 ?_
     refine TW.ld one3 ?_
     refine TW.mv ?_
     refine TW.nil (AW.a 11 ?_)
     refine LW.cT (store_New W B) cl94 ((Take.none _)) ?_
     rintro _ rs0 ⟨ps,rfl,hs0⟩
     refine LW.nil (AW.b (AW.ts [13] 2 (TW.take rfl (Yl.build (vs:=[_,_,_,_,_]) (#[.int .i64 (k:Int),.int .i64 (o.dim.toNat:Int),.int .i64 o.metric,ptr ps,ptr px]) ⟨rfl,rfl,rfl,rfl,rfl,trivial⟩ (by kernel_rfl)) rfl ?_)))
     refine TW.nil (AW.a 14 ?_)
     refine LW.bx ?_
     intro bb54
     refine LW.nil (AW.b (AW.a 15 ?_))
     refine LW.mapSetG rfl rfl rfl keyStr (h1) .t underlying111 underlying9 ?_
     intro chm' h1'
     refine LW.nil (AW.b (AW.d ?_))
     refine NW.end0 rfl  ⟨_,⟨rfl,k,[cr p 114 (corC (.map (some bm)) av (createQ c o k))]++(chm'++(cha++(cs++[[cr bb54 93 (colC (colN o k) ps px)]++(rs0++rx)]).flatten)),bx,⟨_,chm',av,cha,es++[(o.col,bb54)],_,by rw [show esC (es++[(o.col,bb54)])=mset (esC es) o.col (ptr bb54) by rw [mset_new (h2.miss hn)];simp [esC]];exact h1',ColsR.app ⟨ps,px,rs0,rx,hs0 _,hx.more fun y hy=>(by simp [hy]),rfl,rfl,⟨[],rfl⟩,by show k<4;omega⟩ (h2.more fun y hy=>List.mem_append_right _ hy),h3,rfl,createQ_ok h5 hn hkn hl⟩,rfl⟩,?_⟩
     refine Sub.viaL fun z hz=>?_;simp only [List.flatten_append,List.flatten_cons,List.flatten_nil,List.append_nil,List.append_assoc] at hz;rw [hz];exact .s9
 . refine LW.go uM 10 rfl (LW.entryG rfl hat .t .t rfl ?_)
   have hym:y∈todo:=hpm.symm.subset List.mem_cons_self
   have hye:=hsub y hym
   obtain⟨q0,x,hy2,hax⟩:=h2.mem h5.nd y hye
   obtain⟨i,q,rc,hg,hci,hcr,_⟩:=h2.get hax
   have hyq:y.2=ptr q:=by
     obtain⟨j,hj⟩:=List.mem_iff_getElem?.1 hye
     have:=mget_at (k:=y.1) (u:=y.2) hj (by rw [hkeys];exact h5.nd)
     rw [hg] at this
     injection this with this
     exact this.symm
   rw [hyq]
   have hpl1:plOf c y.1=x.place:=by unfold plOf;rw [hax]
   obtain⟨ps,px,rs,rx,hst,hix,rfl,_⟩:=hcr
   refine LW.front (p:=cs.flatten) .t (LW.foc (flat_get hci) (LW.splitA (LW.splitB ?_)))
   refine LW.go uM 9 rfl (LW.ld one3 ?_)
   refine LW.mapSetG rfl rfl rfl keyInt (hom) .t underlying173 underlying3 ?_
   intro tch' hom';refine LW.front (p:=(cs.eraseIdx i).flatten) .t (LW.front (p:=[cr q 93 (colC x ps px)]++(rs++rx)) .n3 (LW.unfoc (flat_get hci) ?_))
   exact LW.go uM 2 rfl (NW.mG ((todo',row',mset lt (x.place:Int) (.bool true),tch')) (by exact⟨⟨hat.on,hom',fun z hz=>hsub z (hpm.symm.subset (List.mem_cons_of_mem _ hz)),fun z hz=>(by dsimp only;rw [mget_mset];by_cases he:(x.place:Int)=(plOf c z.1:Int);exact .inr (by rw [if_pos he]);rw [if_neg he];rcases hdn z hz with hz' | hz';rcases List.mem_cons.1 (hpm.subset hz') with rfl | hz';exact absurd (by rw [hpl1]) he;exact .inl hz';exact .inr hz'),fun k=>(by dsimp only;rw [mget_mset];by_cases he:(x.place:Int)=k;rw [if_pos he];exact .inr ⟨rfl,y,hye,by rw [hpl1,he]⟩;rw [if_neg he];exact hks k)⟩,by dsimp only;have:=hpm.length_eq;simp only [List.length_cons] at this;omega⟩))
end
open Go.RowKit
def sta0:List Value:=staC 0 false [] 0 0 0 0 0 0 0 0 0 0
def repC (u:Value)(x:ItemP)(h:Value)(n:Int):List Value:=itemC u x++([h,.int .i64 n]++sta0)
def repV (u:Value)(x:ItemP)(h:Value)(n:Int):Value:=.agg (repC u x h n).toArray
theorem repC_one {u:Value}(hu:u.oneCell'=true)(x:ItemP){h:Value}(hh:h.oneCell'=true)(n:Int):∀ z∈repC u x h n,z.oneCell'=true:=by
 intro z hz
 rcases List.mem_append.1 hz with hz | hz
 . exact itemC_one hu x z hz
 . rcases List.mem_append.1 hz with hz | hz
   . simp only [List.mem_cons,List.not_mem_nil,or_false] at hz
     rcases hz with rfl | rfl
     . exact hh
     . rfl
   . exact staC_one _ _ _ _ _ _ _ _ _ _ _ _ _ z hz
def rep0:List Value:=repC (.slice none 0 0) ItemP.none (.slice none 0 0) 0
theorem rep0_one:∀ z∈rep0,z.oneCell'=true:=repC_one rfl _ rfl _
def seqP (c:CorP):CorP:={ c with seq:=c.seq+1 }
theorem seqP_ok {c:CorP}(h:CorOk c)(hs:c.seq<1000000000):CorOk (seqP c):=by
 have:=h.s0
 exact⟨h.mv,h.of_,h.nd,h.pl,h.used,h.len,h.al,⟨by show 0<=c.seq+1;omega,by show c.seq+1<=1000000000;omega⟩,fun y hy it hi=>by have:=h.sq y hy it hi;show _<=c.seq+1;omega⟩
section
variable (W:World)(B:Nat)
theorem core_notes (p:Nat)(c:CorP)(rows im:List Row)(s:Nm)(vv:Value)(x:ChaP)(hc:CorR W B im p c rows)(hv:VecAt W B im vv x.vec) :
  Spec prog W B 50 [ptr p,strV s,.agg (chaC vv x).toArray] rows (fun r post=>r=.tuple #[]/\post=rows):=by
 have hbx:(Value.agg (chaC vv x).toArray).cells.toList=chaC vv x:=by
  obtain⟨A,cp,rfl,_⟩:=hv
  rfl
 refine Spec.eG [rows] func50 ntmps50 fun w0=>?_
 refine CW.go uM 2 rfl (LW.bx ?_)
 intro bb5
 refine LW.go uM 3 rfl ?_
 rw [hbx]
 refine CW.go uM 3 rfl (LW.eG (core_moves W B p c rows im s hc) cl100 ?_)
 refine LW.go uM 4 rfl ?_
 refine NW.end0 rfl  ⟨_,⟨rfl,rfl⟩,?_⟩
 exact (Sub.one .t)
theorem core_Do1 (p:Nat)(c:CorP)(rows im:List Row)(vv:Value)(o:OpP)(hc:CorR W B im p c rows)(hv:VecAt W B im vv o.vec)(hk:o.kind=1)(hl:o.col.length<=1000000)(he:createE c o=0)(hi:o.index=1)(hs:c.seq<1000000000) :
   Spec prog W B 23 [ptr p,opV vv o] (rows++im) (fun r post=>r=.tuple #[.agg rep0.toArray,.nilIface]/\∃ pl rows' ch,CorR W B (ch++im) p (createQ (seqP c) o pl) rows'/\post=rows'++(ch++im)):=by
 have hcan:=core_can1 W B p c rows im vv o hc hv hk hl he
 have hbx:=opV_cells hv o
 have hv1:=hv.one
 obtain⟨mv,chm,av,cha,es,cs,h1,h2,h3,rfl,h5⟩:=hc
 have hcr:CorR W B im p (seqP c) ([cr p 114 (corC mv av (seqP c))]++(chm++(cha++cs.flatten))):=⟨mv,chm,av,cha,es,cs,h1,h2,h3,rfl,seqP_ok h5 hs⟩
 have hs0:=h5.s0
 unfold createE at he
 split at he
 . cases he
 split at he
 . cases he
 rename_i e2
 split at he
 . cases he
 rename_i e3
 split at he
 . cases he
 rename_i e4
 split at he
 . cases he
 rename_i e5
 clear he
 have hnc:aget c.cols o.col=none:=by cases hq:aget c.cols o.col with | none=>rfl | some x=>exact absurd (.inl (by rw [hq];rfl)) e2
 have hme:MetOk o.metric:=by unfold MetOk;by_cases hq:o.metric=1\/o.metric=2;exact hq;exact absurd (.inl hq) e4
 refine Spec.eG [[cr p 114 (corC mv av c)]++(chm++(cha++cs.flatten))++im] func23 ntmps23 fun w0=>?_
 refine CW.go uM 2 rfl (LW.bx ?_)
 intro bb3
 refine LW.alloc zero41 rfl ?_
 intro ba4
 refine LW.go uM 5 rfl ?_
 rw [hbx]
 refine CW.go uM 2 rfl (LW.lA (opC vv o) underlying32 szt32 ?_)
 refine LW.cG (core_Can W B p _ im vv o 0 hv hcan) cl18 ?_
 rintro r _ ⟨ch,hr,rfl⟩;obtain⟨rfl,rfl⟩:=hr.zero;refine LW.splitA (LW.splitB (LW.splitB ?_))
 refine LW.go uM 6 rfl (LW.ifaceNotNil _ rfl underlying43 (.inl ⟨rfl,rfl⟩) rfl ?_)
 refine LW.go uM 10 rfl (LW.load (v:=.int .i64 c.seq) rfl .t (rfl) one2 rfl ?_)
 refine LW.ad ((c.seq+1)) ?_
 refine LW.go uM 2 rfl (LW.sr sz2 ?_)
 refine LW.go uM 11 rfl (LW.load (v:=.int .i64 1) rfl .t (by rw [<- hk];rfl) one3 rfl ?_)
 refine LW.go uM 5 rfl (LW.eqlT ?_)
 refine LW.go uM 6 rfl (LW.lA (opC vv o) underlying32 szt32 ?_)
 refine LW.cT (core_made W B p (seqP c) _ im vv o hcr hv hnc (by show c.cols.length<4;omega) hi (by omega) (by omega) hme) cl47 (Take.both .n2 .t) ?_
 rintro _ _ ⟨rfl,pl,rows',ch,hc9,rfl⟩;refine LW.splitA ?_
 refine LW.go uM 6 rfl (LW.bd [_] (rep0.toArray) ?_)
 refine LW.sA (rep0) szt41 (rep0_one) ?_
 refine LW.go uM 4 rfl ?_
 refine NW.res2 rfl (.cell (rep0) rfl .t zd underlying41 rfl szt41) (.tmp rfl) ⟨_,⟨rfl,pl,rows',ch,hc9,rfl⟩,?_⟩
 exact .s2
end
end Go.Proofs.YtnlpccoigflheaaGreatDoor
