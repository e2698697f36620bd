/- TCor1 TCor2 TCor3 TCor4 TCor5 -/
import Derived.Test.YtnlpccoigflheaaGreatDoorTCor0
import Derived.Test.YtnlpccoigflheaaGreatDoorFac
namespace Go.Proofs.YtnlpccoigflheaaGreatDoor
open Go.RowKit
open Go.Proofs.Tryz
def TuL:Tbl:=⟨[(32,1,1),(32,3,3),(32,4,4),(32,5,5),(32,6,6),(32,8,8),(93,3,3),(114,1,1),(114,2,2)],[],[]⟩
theorem uL:TuL.Ok Tryz.prog:=.of trivial
theorem alV_D (l:List (Nm×Nm))(k:Nm):(mget (alV l) k).getD (.string ⟨#[]⟩)=strV ((aget l k).getD []):=by
 rw [alV_get]
 cases aget l k<;>rfl
theorem flat_of {cs:List (List Row)}{i:Nat}{rc:List Row}(h:cs[i]?=some rc)(a b c:List Row):(a++(b++(c++cs.flatten))).Perm (rc++(a++(b++(c++(cs.eraseIdx i).flatten)))):=by
 have h1:=(flat_get h).symm
 refine (List.Perm.append_left a (List.Perm.append_left b (List.Perm.append_left c h1))).trans ?_
 refine (List.Perm.append_left a (List.Perm.append_left b (List.perm_append_comm_assoc c rc _))).trans ?_
 refine (List.Perm.append_left a (List.perm_append_comm_assoc b rc _)).trans ?_
 exact List.perm_append_comm_assoc a rc _
section
variable (W:World)(B:Nat)
theorem core_find (p:Nat)(c:CorP)(rows im:List Row)(s:Nm)(x:ColP)(hc:CorR W B im p c rows)(hf:findP c s=some x) :
  Spec prog W B 34 [ptr p,strV s] rows (fun r post=>(∃ q rc rest,r=ptr q/\ColR W B im q x rc/\rows.Perm (rc++rest))/\post=rows):=by
 obtain⟨mv,chm,av,cha,es,cs,h1,h2,h3,rfl,h5⟩:=hc
 unfold findP at hf
 cases ha:aget c.cols s with
 | some y=>
  rw [ha] at hf
  cases hf
  obtain⟨i,q,rc,hg,hci,hcr,_⟩:=h2.get ha
  refine Spec.eG [[cr p 114 (corC mv av c)],chm,cha,cs.flatten] func34 ntmps34 fun w0=>?_
  refine CW.go uL 11 rfl (LW.ld one111 ?_)
  refine LW.go uL 1 rfl (LW.mapLookG false ( (mget (esC es) s)) rfl rfl keyStr (h1) .t underlying111 underlying9 zero87 (rfl) rfl ?_)
  rw [hg]
  refine LW.go uL 6 rfl (LW.ptrNotNil _ rfl underlying87 rfl rfl ?_)
  refine LW.go uL 11 rfl ?_
  refine NW.r1 ⟨_,⟨⟨q,rc,_,rfl,hcr,flat_of hci _ _ _⟩,rfl⟩,?_⟩
  exact .s4
 | none=>
  rw [ha] at hf
  replace hf:aget c.cols ((aget c.alias s).getD [])=some x:=hf
  obtain⟨i,q,rc,hg,hci,hcr,_⟩:=h2.get hf
  refine Spec.eG [[cr p 114 (corC mv av c)],chm,cha,cs.flatten] func34 ntmps34 fun w0=>?_
  refine CW.go uL 11 rfl (LW.ld one111 ?_)
  refine LW.go uL 1 rfl (LW.mapLookG false ( (mget (esC es) s)) rfl rfl keyStr (h1) .t underlying111 underlying9 zero87 (rfl) rfl ?_)
  rw [h2.miss ha]
  refine LW.go uL 6 rfl (LW.ptrNotNil _ rfl underlying87 rfl rfl ?_)
  refine LW.go uL 6 rfl (CW.drawH [cr p 114 (corC mv av c)] mixed ?_)
  refine AW.ts [0,1,2,3,4,5,6,7,8] 3 (TW.mv ?_)
  refine TW.np ?_
  refine TW.fa fa114_1 ?_
  refine TW.ld one111 ?_
  refine TW.mv ?_
  refine TW.np ?_
  refine TW.fa fa114_2 ?_
  refine TW.ld one34 ?_
  refine TW.mv ?_
  refine TW.nil (AW.a 9 ?_)
  refine LW.mapLookG false ( (mget (alV c.alias) s)) rfl rfl keyStr (h3) .t underlying34 underlying9 zero9 (rfl) rfl ?_
  rw [show (if false=true then Value.tuple #[(mget (alV c.alias) s).getD (.string ⟨#[]⟩),.bool (mget (alV c.alias) s).isSome] else (mget (alV c.alias) s).getD (.string ⟨#[]⟩))=strV ((aget c.alias s).getD []) from alV_D _ _]
  refine LW.nil (AW.b (AW.a 10 ?_))
  refine LW.mapLookG false ( (mget (esC es) ((aget c.alias s).getD []))) rfl rfl keyStr (h1) .t underlying111 underlying9 zero87 (rfl) rfl ?_
  rw [hg]
  refine LW.nil (AW.b (AW.ts [11] 0 (TW.as ?_)))
  refine TW.nil (AW.d ?_)
  refine NW.go uL 2 rfl ?_
  refine NW.r1 ⟨_,⟨⟨q,rc,_,rfl,hcr,flat_of hci _ _ _⟩,rfl⟩,?_⟩
  exact .s4
end
open Go.RowKit
def blkOf (c:CorP)(s:Nm):Nat:=match aget c.cols s with
 | some x=>colBlocks c s x
 | none=>0
def plOf (c:CorP)(s:Nm):Nat:=match aget c.cols s with
 | some x=>x.place
 | none=>0
theorem col_sum {β:Type}(f:Nm->β)(g:Nm×ColP->β):∀ {l:List (Nm×ColP)},(∀ y∈l,f y.1=g y)->(l.map (·.1)).map f=l.map g
 | [],_=>rfl
 | y::r,h=>by simp only [List.map_cons];rw [h y List.mem_cons_self,col_sum f g fun z hz=>h z (List.mem_cons_of_mem _ hz)]
theorem perm_sum {l l':List Nat}(h:l.Perm l'):l.sum=l'.sum:=by
 induction h with
 | nil=>rfl
 | cons x _ ih=>simp only [List.sum_cons,ih]
 | swap x y l=>simp only [List.sum_cons];omega
 | trans _ _ a b=>exact a.trans b
theorem stoLen_le (s:StoP):stoLen s<=s.length:=by
 unfold stoLen
 exact Nat.le_trans (List.length_filter_le _ _) (by rw [stoItems_len];exact Nat.le_refl _)
section
variable (W:World)(B:Nat)
set_option maxHeartbeats 1000000 in
theorem core_pool (p:Nat)(c:CorP)(rows im:List Row)(hc:CorR W B im p c rows) :
   Spec prog W B 204 [ptr p] (rows++im) (fun r post=>∃ pp lp rp,r=ptr pp/\PoolR pp (freeP c) lp rp/\post=rp++(rows++im)):=by
 have hc':=hc
 obtain⟨mv,chm,av,cha,es,cs,h1,h2,h3,rfl,h5⟩:=hc
 have hkeys:=h2.keys.1
 have hag:∀ y∈c.cols,aget c.cols y.1=some y.2:=fun y hy=>aget_of_mem h5.nd hy
 have hblk:((esC es).map fun y=>blkOf c y.1).sum=usedP c:=by
   have:(esC es).map (fun y=>blkOf c y.1)=((esC es).map (·.1)).map (blkOf c):=by rw [List.map_map];rfl
   rw [this,hkeys,col_sum (blkOf c) (fun y=>colBlocks c y.1 y.2) fun y hy=>by unfold blkOf;rw [hag y hy]]
   rfl
 have hpln:((esC es).map fun y=>plOf c y.1).Nodup:=by
   have:(esC es).map (fun y=>plOf c y.1)=((esC es).map (·.1)).map (plOf c):=by rw [List.map_map];rfl
   rw [this,hkeys,col_sum (plOf c) (fun y=>y.2.place) fun y hy=>by unfold plOf;rw [hag y hy]]
   exact h5.pl
 have hused:=h5.used
 obtain⟨bm,hbm⟩:=h1.shape
 subst hbm
 refine Spec.eG [[cr p 114 (corC (.map (some bm)) av c)],chm,cha,cs.flatten,im] func204 ntmps204 fun w0=>?_
 refine CW.go uL 7 rfl (LW.cT (pool_New W B 64 (by decide)) cl262 ((Take.none _)) ?_)
 rintro _ rp ⟨pp,rfl,hp⟩
 refine LW.go uL 9 rfl (LW.load (v:=.map (some bm)) rfl .t (rfl) one111 rfl ?_)
 refine LW.rangeG rfl h1 .t underlying111 rfl ?_
 intro r11 row hit
 refine LW.go uL 3 rfl ?_
 refine CW.loopG (fun st:List (Nm×Value)×List Row×Nat×List (Int×Value)×List Row=>[(3,ptr pp),(11,ptr r11),(0,ptr p)]) (fun st=>[st.2.1,st.2.2.2.2,[cr p 114 (corC (.map (some bm)) av c)],chm,cha,cs.flatten,im]) (fun st=>IterR strV (.map (some bm)) chm r11 st.1 st.2.1/\PoolR pp st.2.2.1 st.2.2.2.1 st.2.2.2.2/\st.2.2.1+usedP c=64+(st.1.map fun y=>blkOf c y.1).sum/\(∀ y∈st.1,mget st.2.2.2.1 (2*(plOf c y.1:Int))=none)/\(st.1.map fun y=>plOf c y.1).Nodup/\∀ y∈st.1,y∈esC es) (fun st=>st.1.length) (esC es,row,64,[],rp) (by exact⟨hit,hp,by dsimp only;rw [hblk],fun _ _=>rfl,hpln,fun _ h=>h⟩) rfl (by repeat' constructor) ?_
 rintro⟨todo,row,nf,lp,rp⟩ ⟨hit,hp,hnf,hmi,hnd,hsub⟩;dsimp only at hit hp hnf hmi hnd hsub |-
 refine CW.go uL 2 rfl (LW.nextG rfl hit .t .t rfl ?_)
 intro v12 h12 hR12
 rcases hR12 with ⟨htd,rfl,rfl⟩ | ⟨y,todo',row',hpm,hat,rfl,rfl⟩
 . refine LW.go uL 7 rfl (NW.then_exit (NW.go uL 9 rfl ?_))
   refine NW.ret1 rfl rfl ⟨_,⟨pp,lp,rp,rfl,by subst htd;have h9:nf+usedP c=64:=hnf;have:nf=freeP c:=(by unfold freeP;omega);rw [<- this];exact hp,rfl⟩,?_⟩
   simp only [List.append_assoc];exact .s6
 . refine LW.go uL 10 rfl (LW.entryG rfl hat .t .t rfl ?_)
   have hym:y∈todo:=hpm.symm.subset List.mem_cons_self
   have hye:=hsub y hym
   obtain⟨q0,x,hy2,hax⟩:=h2.mem h5.nd y hye
   obtain⟨i,q,rc,hg,hci,hcr,_⟩:=h2.get hax
   have hyq:y.2=ptr q:=by
    obtain⟨j,hj⟩:=List.mem_iff_getElem?.1 hye
    have:=mget_at (k:=y.1) (u:=y.2) hj (by rw [hkeys];exact h5.nd)
    rw [hg] at this
    injection this with this
    exact this.symm
   rw [hyq]
   obtain⟨hpl4,hk1⟩:=hcr.ok
   have hblk1:blkOf c y.1=blocksP x.x.x.kind (stoLen x.s):=by unfold blkOf colBlocks movesP;rw [hax,h5.mv];simp
   have hpl1:plOf c y.1=x.place:=by unfold plOf;rw [hax]
   obtain⟨ps,px,rs,rx,hst,hix,rfl,_⟩:=hcr
   have hsl:stoLen x.s<=1000000:=by have:=stoLen_le x.s;have:=hst.ok.2.2;omega
   have hsum:(todo.map fun y=>blkOf c y.1).sum=blkOf c y.1+(todo'.map fun y=>blkOf c y.1).sum:=by rw [perm_sum (hpm.map _)];rfl
   have hn1:nf+usedP c=64+(blocksP x.x.x.kind (stoLen x.s)+(todo'.map fun y=>blkOf c y.1).sum):=by rw [<- hblk1,<- hsum];exact hnf
   have hn2:blocksP x.x.x.kind (stoLen x.s)<=nf:=by omega
   refine LW.front (p:=cs.flatten) .t (LW.foc (flat_get hci) (LW.splitA (LW.splitB ?_)))
   refine LW.go uL 7 rfl (CW.drawH [cr q 93 (colC x ps px)] mixed ?_)
   refine AW.ts [0,1,2,3,4,5,6,7,8,9,11,12,13,14] 4 (TW.mv ?_)
   refine TW.mv ?_
   refine TW.np ?_
   refine TW.fa fa93_0 ?_
   refine TW.ld one3 ?_
   refine TW.take rfl (Yl.mul ((2*(x.place:Int))) rfl rfl w4) rfl ?_
   refine TW.mv ?_
   refine TW.np ?_
   refine TW.fa fa93_4 ?_
   refine TW.ld one91 ?_
   refine TW.mv ?_
   refine TW.np ?_
   refine TW.fa fa93_3 ?_
   refine TW.ld one90 ?_
   refine TW.nil (AW.a 10 ?_)
   refine LW.eG (idx_Kind W B px x.x rx im hix) cl103 ?_
   refine LW.nil (AW.b (AW.a 15 ?_))
   refine LW.eT (store_Len W B ps x.s rs im hst) cl37 .n2 ?_
   refine LW.splitA ?_
   refine LW.nil (AW.b (AW.a 16 ?_))
   refine LW.eT (idx_Blocks W B x.x.x.kind (stoLen x.s) (by omega) (by omega) hsl) cl154 ((Take.none _)) ?_
   refine LW.nil (AW.b (AW.a 17 ?_))
   refine LW.cG (pool_Size W B pp nf lp rp (2*(x.place:Int)) (blocksP x.x.x.kind (stoLen x.s)) hp (by rw [<- hpl1];exact hmi y hym) (by omega)) cl263 ?_
   rintro _ _ ⟨rfl,u,c1,c2,zs,rfl,hp2,_⟩;refine LW.splitA ?_
   refine LW.nil (AW.b (AW.d ?_))
   refine NW.go uL 5 rfl ?_
   refine LW.front (p:=(cs.eraseIdx i).flatten) .t (LW.front (p:=[cr q 93 (colC x ps px)]++(rs++rx)) .n3 (LW.unfoc (flat_get hci) ?_))
   refine LW.eT (core_moves W B p c _ im y.1 hc') cl100 .n4 ?_
   refine LW.splitA (LW.splitB (LW.splitC ?_))
   exact LW.go uL 5 rfl (NW.mG ((todo',row',nf-blocksP x.x.x.kind (stoLen x.s),mset lp (2*(x.place:Int)) u,c1)) (by exact⟨⟨hat.on,hp2,(by show nf-blocksP x.x.x.kind (stoLen x.s)+usedP c=64+(todo'.map fun y=>blkOf c y.1).sum;omega),fun z hz=>(by rw [mget_mset,if_neg,hmi z (hpm.symm.subset (List.mem_cons_of_mem _ hz))];intro he;have hnd':=(hpm.map fun y=>plOf c y.1).nodup_iff.1 hnd;simp only [List.map_cons,List.nodup_cons] at hnd';exact hnd'.1 (List.mem_map.2 ⟨z,hz,by omega⟩)),(by have hnd':=(hpm.map fun y=>plOf c y.1).nodup_iff.1 hnd;simp only [List.map_cons,List.nodup_cons] at hnd';exact hnd'.2),fun z hz=>hsub z (hpm.symm.subset (List.mem_cons_of_mem _ hz))⟩,by dsimp only;have:=hpm.length_eq;simp only [List.length_cons] at this;omega⟩))
end
open Go.RowKit
def opC (vv:Value)(o:OpP):List Value:=[.int .i64 o.kind,strV o.col,strV o.name,.int .i64 o.id,.int .i64 o.dim,.int .i64 o.metric,.int .i64 o.index,vv,strV o.pay,.int .i64 o.k,.int .u32 o.draw]
def opV (vv:Value)(o:OpP):Value:=.agg (opC vv o).toArray
theorem opV_cells {W:World}{B:Nat}{im:List Row}{vv:Value}{xs:List Int}(hv:VecAt W B im vv xs)(o:OpP):(opV vv o).cells.toList=opC vv o:=by
 obtain⟨A,cp,rfl,_⟩:=hv
 rfl
theorem opC_one {vv:Value}(h:vv.oneCell'=true)(o:OpP):∀ u∈opC vv o,u.oneCell'=true:=by
 intro u hu
 simp only [opC,List.mem_cons,List.not_mem_nil,or_false] at hu
 rcases hu with rfl | rfl | rfl | rfl | rfl | rfl | rfl | rfl | rfl | rfl | rfl<;>first | rfl | exact h
section
variable (W:World)(B:Nat)
theorem core_Free (p:Nat)(c:CorP)(rows im:List Row)(hc:CorR W B im p c rows):Spec prog W B 130 [ptr p] (rows++im) (fun r post=>r=.int .i64 (freeP c:Int)/\post=rows++im):=by
 refine Spec.eG [rows++im] func130 ntmps130 fun w0=>?_
 refine CW.go uL 9 rfl (LW.pn underlying60 ?_)
 refine LW.go uL 8 rfl (LW.cG (core_pool W B p c rows im hc) cl204 ?_)
 rintro _ _ ⟨pp,lp,rp,rfl,hp,rfl⟩;refine LW.splitA ?_
 refine LW.cG (pool_Free W B pp (freeP c) lp rp hp) cl205 ?_
 rintro _ _ ⟨rfl,_⟩
 refine LW.go uL 4 rfl ?_
 refine NW.r1 ⟨_,⟨rfl,rfl⟩,?_⟩
 exact (Sub.one .t)
theorem core_create (p:Nat)(c:CorP)(rows im:List Row)(vv:Value)(o:OpP)(hc:CorR W B im p c rows)(hv:VecAt W B im vv o.vec)(hl:o.col.length<=1000000)(he:createE c o=0) :
   Spec prog W B 80 [ptr p,opV vv o] (rows++im) (fun r post=>r=.int .i64 0/\post=rows++im):=by
 have hc':=hc
 have hbx:=opV_cells hv o
 obtain⟨mv,chm,av,cha,es,cs,h1,h2,h3,rfl,h5⟩:=hc
 unfold createE at he
 split at he
 . cases he
 rename_i e1
 split at he
 . cases he
 rename_i e2
 split at he
 . cases he
 rename_i e3
 split at he
 . cases he
 rename_i e4
 split at he
 . cases he
 rename_i e5
 split at he
 . cases he
 rename_i e6
 have hnm:nameOk o.col=true:=by cases hq:nameOk o.col with | true=>rfl | false=>exact absurd hq e1
 have hnc:aget c.cols o.col=none:=by cases hq:aget c.cols o.col with | none=>rfl | some x=>exact absurd (.inl (by rw [hq];rfl)) e2
 have hna:aget c.alias o.col=none:=by cases hq:aget c.alias o.col with | none=>rfl | some x=>exact absurd (.inr (by rw [hq];rfl)) e2
 have hkn:(decide (o.metric=1) || decide (o.metric=2))=true:=by
   by_cases hq:o.metric=1
   . simp [hq]
   . by_cases hq2:o.metric=2
     . simp [hq2]
     . exact absurd (.inl (by omega)) e4
 have hlen:(esC es).length=c.cols.length:=by have:=congrArg List.length h2.keys.1;simpa using this
 refine Spec.eG [[cr p 114 (corC mv av c)],chm,cha,cs.flatten,im] func80 ntmps80 fun w0=>?_
 refine CW.go uL 2 rfl (LW.bx ?_)
 intro bb3
 refine LW.go uL 4 rfl ?_
 rw [hbx]
 refine CW.drawH [cr p 114 (corC mv av c),cr bb3 32 (opC vv o)] mixed ?_
 refine AW.ts [0,1,2,3,4,5] 6 (TW.mv ?_)
 refine TW.np ?_
 refine TW.fa fa114_2 ?_
 refine TW.ld one34 ?_
 refine TW.fa fa32_1 ?_
 refine TW.ld one9 ?_
 refine TW.nil (AW.a 6 ?_)
 refine LW.mapLookG true ( (mget (alV c.alias) o.col)) rfl rfl keyStr (h3) .t underlying34 underlying9 zero9 (rfl) rfl ?_
 simp only [alV_get,hna,if_true,Option.map_none,Option.getD_none,Option.isSome_none]
 refine LW.nil (AW.b (AW.ts [7,8,9,10,11] 0 (TW.mv ?_)))
 refine TW.take rfl (Yl.extract rfl rfl) rfl ?_
 refine TW.take rfl (Yl.extract rfl rfl) rfl ?_
 refine TW.as ?_
 refine TW.as ?_
 refine TW.nil (AW.d ?_)
 refine NW.go uL 6 rfl (LW.ld one9 ?_)
 refine LW.eT (core_name W B o.col hl) cl152 ((Take.none _)) ?_
 rw [hnm]
 refine LW.go uL 6 rfl (CW.drawH [cr p 114 (corC mv av c),cr bb3 32 (opC vv o)] mixed ?_)
 refine AW.ts [0,1,2,3,4,5] 6 (TW.mv ?_)
 refine TW.np ?_
 refine TW.fa fa114_1 ?_
 refine TW.ld one111 ?_
 refine TW.fa fa32_1 ?_
 refine TW.ld one9 ?_
 refine TW.nil (AW.a 6 ?_)
 refine LW.mapLookG false ( (mget (esC es) o.col)) rfl rfl keyStr (h1) .t underlying111 underlying9 zero87 (rfl) rfl ?_
 simp only [h2.miss hnc,Bool.false_eq_true,if_false,Option.getD_none]
 refine LW.nil (AW.b (AW.ts [7,8,9,10,11] 0 (TW.take rfl (Yl.ptrNotNil false rfl underlying87 rfl) rfl ?_)))
 refine TW.mv ?_
 refine TW.on 31 rfl rfl rfl (Yl.move rfl) rfl ?_
 refine TW.take rfl (Yl.pickF rfl rfl) rfl ?_
 refine TW.as ?_
 refine TW.nil (AW.d ?_)
 refine NW.go uL 5 rfl (LW.ld one3 ?_)
 refine LW.lssF ?_
 refine LW.go uL 4 rfl (LW.ld one3 ?_)
 refine LW.go uL 1 rfl (LW.gtrF ?_)
 refine LW.go uL 8 rfl (LW.ld one3 ?_)
 refine LW.eT (metric_Known W B o.metric) cl153 ((Take.none _)) ?_
 rw [hkn]
 refine LW.go uL 5 rfl (LW.ld one3 ?_)
 refine LW.go uL 1 rfl (LW.lssF ?_)
 refine LW.go uL 5 rfl (LW.ld one3 ?_)
 refine LW.go uL 1 rfl (LW.gtrF ?_)
 refine LW.go uL 10 rfl (LW.ld one111 ?_)
 refine LW.mapLenG rfl (h1) .t underlying111 rfl ?_
 refine LW.geqF ?_
 refine LW.go uL 7 rfl (LW.ld one3 ?_)
 refine LW.eT (idx_Blocks W B o.index 0 (by omega) (by omega) (by decide)) cl154 ((Take.none _)) ?_
 refine LW.go uL 1 rfl (LW.eT (core_Free W B p c _ im hc') cl130 (Take.both .n4 .t) ?_)
 refine LW.gtrF ?_
 refine LW.go uL 13 rfl ?_
 refine NW.r1 ⟨_,⟨rfl,rfl⟩,?_⟩
 exact (Sub.one .t)
end
open Go.RowKit
def strB:Value->Nm
 | .string b=>b.data.toList
 | _=>[]
theorem strB_V (s:Nm):strB (strV s)=s:=by simp [strB,strV]
theorem alV_any (l:List (Nm×Nm))(k:Nm):(alV l).any (fun y=>strB y.2==k)=l.any fun y=>y.2==k:=by
 unfold alV
 rw [List.any_map]
 exact congrArg (fun f=>l.any f) (funext fun y=>by simp [strB_V])
theorem alV_mem {l:List (Nm×Nm)}{y:Nm×Value}(h:y∈alV l):∃ b,y.2=strV b:=by
 obtain⟨z,_,rfl⟩:=List.mem_map.1 h
 exact⟨z.2,rfl⟩
theorem perm_any {α:Type}{f:α->Bool}{l l':List α}(h:l.Perm l'):l.any f=l'.any f:=by
 induction h with
 | nil=>rfl
 | cons x _ ih=>simp only [List.any_cons,ih]
 | swap x y l=>simp only [List.any_cons];cases f x<;>cases f y<;>rfl
 | trans _ _ a b=>exact a.trans b
section
variable (W:World)(B:Nat)
theorem core_drop (p:Nat)(c:CorP)(rows im:List Row)(vv:Value)(o:OpP)(hc:CorR W B im p c rows)(hv:VecAt W B im vv o.vec)(hs:(aget c.cols o.col).isSome=true) :
   Spec prog W B 81 [ptr p,opV vv o] (rows++im) (fun r post=>r=.int .i64 (if c.alias.any (fun y=>y.2==o.col) then 4 else 0)/\post=rows++im):=by
 have hc':=hc
 have hbx:=opV_cells hv o
 obtain⟨mv,chm,av,cha,es,cs,h1,h2,h3,rfl,h5⟩:=hc
 obtain⟨x,hax⟩:=Option.isSome_iff_exists.1 hs
 obtain⟨i,q,rc,hg,hci,hcr,_⟩:=h2.get hax
 obtain⟨ba,hba⟩:=h3.shape
 subst hba
 have hany:=alV_any c.alias o.col
 refine Spec.eG [[cr p 114 (corC mv (.map (some ba)) c)],chm,cha,cs.flatten,im] func81 ntmps81 fun w0=>?_
 refine CW.go uL 2 rfl (LW.bx ?_)
 intro bb3
 refine LW.go uL 6 rfl ?_
 rw [hbx]
 refine CW.drawH [cr p 114 (corC mv (.map (some ba)) c),cr bb3 32 (opC vv o)] mixed ?_
 refine AW.ts [0,1,2,3,4,5] 3 (TW.mv ?_)
 refine TW.np ?_
 refine TW.fa fa114_1 ?_
 refine TW.ld one111 ?_
 refine TW.fa fa32_1 ?_
 refine TW.ld one9 ?_
 refine TW.nil (AW.a 6 ?_)
 refine LW.mapLookG false ( (mget (esC es) o.col)) rfl rfl keyStr (h1) .t underlying111 underlying9 zero87 (rfl) rfl ?_
 simp only [hg,Bool.false_eq_true,if_false,Option.getD_some]
 refine LW.nil (AW.b (AW.ts [7,8] 0 (TW.take rfl (Yl.ptrNil false rfl underlying87 rfl) rfl ?_)))
 refine TW.as ?_
 refine TW.nil (AW.d ?_)
 refine NW.go uL 6 rfl (LW.ld one9 ?_)
 refine LW.eT (core_moves W B p c _ im o.col hc') cl100 .n4 ?_
 refine LW.splitA (LW.splitB (LW.splitC ?_))
 refine LW.go uL 13 rfl (LW.load (v:=.map (some ba)) rfl .t (rfl) one34 rfl ?_)
 refine LW.rangeG rfl h3 .t underlying34 rfl ?_
 intro r25 row hit
 refine LW.go uL 3 rfl ?_
 refine CW.loopG (fun st:List (Nm×Value)×List Row=>[(25,ptr r25),(0,ptr p),(3,ptr bb3)]) (fun st=>[st.2,[cr p 114 (corC mv (.map (some ba)) c)],chm,cha,cs.flatten,im,[cr bb3 32 (opC vv o)]]) (fun st=>IterR strV (.map (some ba)) cha r25 st.1 st.2/\(st.1.any fun y=>strB y.2==o.col)=(c.alias.any fun y=>y.2==o.col)/\∀ y∈st.1,y∈alV c.alias) (fun st=>st.1.length) (alV c.alias,row) (by exact⟨hit,hany,fun _ h=>h⟩) rfl (by repeat' constructor) ?_
 rintro⟨todo,row⟩ ⟨hit,han,hsub⟩;dsimp only at hit han hsub |-
 refine CW.go uL 2 rfl (LW.nextG rfl hit .t .t rfl ?_)
 intro v26 h26 hR26
 rcases hR26 with ⟨htd,rfl,rfl⟩ | ⟨y,todo',row',hpm,hat,rfl,rfl⟩
 . refine LW.go uL 7 rfl (NW.then_exit (NW.go uL 8 rfl ?_))
   refine NW.ret1 rfl rfl ⟨_,⟨by rw [<- han,htd];rfl,rfl⟩,?_⟩
   simp only [List.append_assoc];exact .s5
 . refine LW.go uL 10 rfl (LW.entryG rfl hat .t .t rfl ?_)
   obtain⟨b,hyb⟩:=alV_mem (hsub y (hpm.symm.subset List.mem_cons_self))
   rw [hyb]
   have han':((b==o.col) || todo'.any fun y=>strB y.2==o.col)=(c.alias.any fun y=>y.2==o.col):=by rw [<- han,perm_any hpm,List.any_cons,hyb,strB_V]
   refine LW.go uL 8 rfl (LW.ld one9 ?_)
   by_cases hbo:b=o.col
   . refine LW.strEql (true) rfl rfl underlying9 (decide_eq_true (by simp [hbo])) rfl ?_
     refine LW.go uL 10 rfl (NW.then_ret ?_)
     refine NW.go uL 2 rfl ?_
     refine NW.ret1 rfl rfl ⟨_,⟨by rw [<- han',hbo];simp,rfl⟩,?_⟩
     simp only [List.append_assoc];exact .s5
   . refine LW.strEql (false) rfl rfl underlying9 (decide_eq_false (by simp [hbo])) rfl ?_
     exact LW.go uL 5 rfl (NW.mG ((todo',row')) (by exact⟨⟨hat.on,(by rw [<- han'];simp [hbo]),fun z hz=>hsub z (hpm.symm.subset (List.mem_cons_of_mem _ hz))⟩,by dsimp only;have:=hpm.length_eq;simp only [List.length_cons] at this;omega⟩))
end
open Go.RowKit
section
variable (W:World)(B:Nat)
theorem core_more (p:Nat)(c:CorP)(rows im:List Row)(s:Nm)(x:ColP)(hc:CorR W B im p c rows)(hax:aget c.cols s=some x) :
  Spec prog W B 156 [ptr p,strV s] (rows++im) (fun r post=>r=.int .i64 (moreP c s x)/\post=rows++im):=by
 have hc':=hc
 obtain⟨mv,chm,av,cha,es,cs,h1,h2,h3,rfl,h5⟩:=hc
 obtain⟨i,q,rc,hg,hci,hcr,_⟩:=h2.get hax
 obtain⟨hpl4,hk1⟩:=hcr.ok
 obtain⟨ps,px,rs,rx,hst,hix,rfl,_⟩:=hcr
 have hsl:stoLen x.s<=1000:=by have:=stoLen_le x.s;have:=hst.ok.2.2;omega
 have hmo:moreP c s x=((blocksP x.x.x.kind (stoLen x.s+1):Nat):Int)-(blocksP x.x.x.kind (stoLen x.s):Nat):=by unfold moreP movesP;rw [h5.mv];simp
 have hb1:∀ n,blocksP x.x.x.kind n=(n+7)/8:=fun n=>by rw [hk1];rfl
 have hb2:=hb1 (stoLen x.s)
 have hb3:=hb1 (stoLen x.s+1)
 refine Spec.eG [[cr p 114 (corC mv av c)],chm,cha,cs.flatten,im] func156 ntmps156 fun w0=>?_
 refine CW.go uL 10 rfl (LW.ld one111 ?_)
 refine LW.go uL 1 rfl (LW.mapLookG false ( (mget (esC es) s)) rfl rfl keyStr (h1) .t underlying111 underlying9 zero87 (rfl) rfl ?_)
 simp only [hg,Bool.false_eq_true,if_false,Option.getD_some]
 refine LW.front (p:=cs.flatten) .t (LW.foc (flat_get hci) (LW.splitA (LW.splitB ?_)))
 refine LW.go uL 8 rfl (LW.ld one90 ?_)
 refine LW.eT (store_Len W B ps x.s rs im hst) cl37 .n2 ?_
 refine LW.splitA ?_
 refine LW.go uL 4 rfl (CW.drawH [cr q 93 (colC x ps px)] mixed ?_)
 refine AW.ts [0,1,2,3,5,6,8,9,10,11,13] 6 (TW.mv ?_)
 refine TW.np ?_
 refine TW.fa fa93_4 ?_
 refine TW.ld one91 ?_
 refine TW.mv ?_
 refine TW.take rfl (Yl.add (((stoLen x.s+1:Nat):Int)) rfl rfl w4) rfl ?_
 refine TW.mv ?_
 refine TW.np ?_
 refine TW.fa fa93_4 ?_
 refine TW.ld one91 ?_
 refine TW.mv ?_
 refine TW.nil (AW.a 4 ?_)
 refine LW.eG (idx_Kind W B px x.x rx im hix) cl103 ?_
 refine LW.nil (AW.b (AW.a 7 ?_))
 refine LW.eT (idx_Blocks W B x.x.x.kind (stoLen x.s+1) (by omega) (by omega) (by omega)) cl154 ((Take.none _)) ?_
 refine LW.nil (AW.b (AW.a 12 ?_))
 refine LW.eG (idx_Kind W B px x.x rx im hix) cl103 ?_
 refine LW.nil (AW.b (AW.a 14 ?_))
 refine LW.eT (idx_Blocks W B x.x.x.kind (stoLen x.s) (by omega) (by omega) (by omega)) cl154 ((Take.none _)) ?_
 refine LW.nil (AW.b (AW.ts [15,16] 0 (TW.take rfl (Yl.sub ((((blocksP x.x.x.kind (stoLen x.s+1):Nat):Int)-(blocksP x.x.x.kind (stoLen x.s):Nat))) rfl rfl w4) rfl ?_)))
 refine TW.as ?_
 refine TW.nil (AW.d ?_)
 refine NW.go uL 6 rfl ?_
 refine LW.front (p:=(cs.eraseIdx i).flatten) .t (LW.front (p:=[cr q 93 (colC x ps px)]++(rs++rx)) .n3 (LW.unfoc (flat_get hci) ?_))
 refine LW.eT (core_moves W B p c _ im s hc') cl100 .n4 ?_
 refine LW.go uL 12 rfl ?_
 refine NW.ret1 rfl rfl ⟨_,⟨by rw [hmo],rfl⟩,?_⟩
 exact .s2
theorem core_put (p:Nat)(c:CorP)(rows im:List Row)(vv:Value)(o:OpP)(hc:CorR W B im p c rows)(hv:VecAt W B im vv o.vec)(hpl:o.pay.length<=1000000)(hvl:o.vec.length<=1000000)(he:putE c o=0) :
   Spec prog W B 82 [ptr p,opV vv o] (rows++im) (fun r post=>r=.int .i64 0/\post=rows++im):=by
 have hc':=hc
 have hbx:=opV_cells hv o
 obtain⟨mv,chm,av,cha,es,cs,h1,h2,h3,rfl,h5⟩:=hc
 unfold putE at he
 cases hax:aget c.cols o.col with
 | none=>rw [hax] at he;cases he
 | some x=>
 rw [hax] at he
 simp only at he
 split at he
 . cases he
 rename_i e1
 split at he
 . cases he
 rename_i e2
 split at he
 . cases he
 rename_i e3
 split at he
 . cases he
 rename_i e4
 split at he
 . cases he
 rename_i e5
 obtain⟨i,q,rc,hg,hci,hcr,_⟩:=h2.get hax
 obtain⟨ps,px,rs,rx,hst,hix,rfl,_⟩:=hcr
 have hmay:mayV o.vec (x.dim:Int)=true:=by cases hq:mayV o.vec (x.dim:Int) with | true=>rfl | false=>exact absurd hq e2
 refine Spec.eG [[cr p 114 (corC mv av c)],chm,cha,cs.flatten,im] func82 ntmps82 fun w0=>?_
 refine CW.go uL 2 rfl (LW.bx ?_)
 intro bb3
 refine LW.go uL 4 rfl ?_
 rw [hbx]
 refine CW.drawH [cr p 114 (corC mv av c),cr bb3 32 (opC vv o)] mixed ?_
 refine AW.ts [0,1,2,3,4,5] 2 (TW.mv ?_)
 refine TW.np ?_
 refine TW.fa fa114_1 ?_
 refine TW.ld one111 ?_
 refine TW.fa fa32_1 ?_
 refine TW.ld one9 ?_
 refine TW.nil (AW.a 6 ?_)
 refine LW.mapLookG false ( (mget (esC es) o.col)) rfl rfl keyStr (h1) .t underlying111 underlying9 zero87 (rfl) rfl ?_
 simp only [hg,Bool.false_eq_true,if_false,Option.getD_some]
 refine LW.nil (AW.b (AW.ts [7] 0 (TW.as ?_)))
 refine TW.nil (AW.d ?_)
 refine NW.go uL 6 rfl (LW.pn underlying87 ?_)
 refine LW.go uL 7 rfl (LW.ld one3 ?_)
 refine LW.lssF ?_
 refine LW.go uL 4 rfl (LW.ld one3 ?_)
 refine LW.go uL 1 rfl (LW.gtrF ?_)
 refine LW.go uL 6 rfl ?_
 refine CW.front (p:=cs.flatten) .t (CW.foc (flat_get hci) (CW.splitA (CW.splitB ?_)))
 refine CW.drawH [cr q 93 (colC x ps px),cr bb3 32 (opC vv o)] mixed ?_
 refine AW.ts [0,1,2,3,4,5] 3 (TW.fa fa32_7 ?_)
 refine TW.ld one25 ?_
 refine TW.mv ?_
 refine TW.np ?_
 refine TW.fa fa93_1 ?_
 refine TW.ld one3 ?_
 refine TW.nil (AW.a 6 ?_)
 refine LW.cG (vect_May W B im vv o.vec (x.dim:Int) hv hvl) cl74 ?_
 rintro _ _ ⟨rfl,hpost⟩;rw [hpost,hmay];clear hpost
 refine LW.nil (AW.b (AW.ts [7,8] 0 (TW.take rfl (Yl.not _ rfl rfl) rfl ?_)))
 refine TW.as ?_
 refine TW.nil (AW.d ?_)
 refine NW.go uL 5 rfl (LW.ld one9 ?_)
 refine LW.lenString rfl underlying9 rfl ?_
 refine LW.gtr false rfl rfl (decide_eq_false (by show ¬ ((o.pay.length:Nat):Int)>40;omega)) rfl ?_
 refine LW.go uL 8 rfl (LW.ld one9 ?_)
 refine LW.front (p:=(cs.eraseIdx i).flatten) .t (LW.front (p:=[cr q 93 (colC x ps px)]++(rs++rx)) .n3 (LW.unfoc (flat_get hci) ?_))
 refine LW.eT (core_thr W B p c _ im o.col hc') cl155 .n4 ?_
 refine LW.splitA (LW.splitB (LW.splitC ?_))
 refine LW.go uL 9 rfl ?_
 refine CW.front (p:=cs.flatten) .t (CW.foc (flat_get hci) (CW.splitA (CW.splitB ?_)))
 refine CW.drawH [cr q 93 (colC x ps px),cr bb3 32 (opC vv o)] mixed ?_
 refine AW.ts [0,1,2,3,4,5] 7 (TW.mv ?_)
 refine TW.np ?_
 refine TW.fa fa93_3 ?_
 refine TW.ld one90 ?_
 refine TW.fa fa32_3 ?_
 refine TW.ld one3 ?_
 refine TW.nil (AW.all [6,10] (by kernel_rfl) rfl ?_)
 refine AWs.cons rfl ?_ ?_
 . refine LW.cT (store_Get W B ps x.s rs im o.id hst) cl35 .n2 ?_
   rintro _ _ ⟨u,ch,rfl,hu,rfl⟩;refine LW.splitA (LW.splitB ?_)
   refine LW.nil (AW.b (AW.ts [7,8,9] 3 (TW.mv ?_)))
   refine TW.take rfl (Yl.extract rfl rfl) rfl ?_
   refine TW.take rfl (Yl.extract rfl rfl) rfl ?_
   refine TW.nil (AW.a 10 ?_)
   refine LW.alloc zero36 rfl ?_
   intro ba6
   refine LW.nil (AW.b (AW.a 11 ?_))
   refine LW.sA (itemC u ((stoGet x.s o.id).getD ItemP.none)) szt36 (itemC_one hu.one _) ?_
   refine LW.nil (AW.b (AW.ts [12] 0 (TW.as ?_)))
   refine TW.nil (AW.d ?_)
   refine NW.go uL 3 rfl ?_
   rcases hgt:stoGet x.s o.id with _ | y
   . refine LW.go uL 2 rfl ?_
     refine LW.front (p:=(cs.eraseIdx i).flatten) .t (LW.front (p:=[cr q 93 (colC x ps px)]++(rs++rx)) .n3 (LW.unfoc (flat_get hci) ?_))
     refine LW.go uL 6 rfl (LW.ld one9 ?_)
     refine LW.go uL 1 rfl (LW.eT (core_more W B p c _ im o.col x hc' hax) cl156 (Take.both .n4 .t) ?_)
     refine LW.go uL 3 rfl (LW.eG (core_Free W B p c _ im hc') cl130 ?_)
     refine LW.go uL 1 rfl (LW.gtr false rfl rfl (decide_eq_false (fun h=>e5 ⟨by rw [hgt];rfl,h⟩)) rfl ?_)
     refine LW.go uL 12 rfl ?_
     refine NW.r1 ⟨_,⟨rfl,rfl⟩,?_⟩
     exact (Sub.one .t)
   . refine LW.go uL 2 rfl ?_
     refine LW.front (p:=(cs.eraseIdx i).flatten) .t (LW.front (p:=[cr q 93 (colC x ps px)]++(rs++rx)) .n3 (LW.unfoc (flat_get hci) ?_))
     refine LW.go uL 20 rfl ?_
     refine NW.r1 ⟨_,⟨rfl,rfl⟩,?_⟩
     simp only [List.append_assoc];exact .s5
 refine AWs.cons rfl ?_ ?_
 . refine LW.alloc zero36 rfl ?_
   intro ba6
   refine LW.nil (AW.b (AW.a 6 ?_))
   refine LW.cT (store_Get W B ps x.s rs im o.id hst) cl35 .n2 ?_
   rintro _ _ ⟨u,ch,rfl,hu,rfl⟩;refine LW.splitA (LW.splitB ?_)
   refine LW.nil (AW.b (AW.ts [7,8,9] 2 (TW.mv ?_)))
   refine TW.take rfl (Yl.extract rfl rfl) rfl ?_
   refine TW.take rfl (Yl.extract rfl rfl) rfl ?_
   refine TW.nil (AW.a 11 ?_)
   refine LW.sA (itemC u ((stoGet x.s o.id).getD ItemP.none)) szt36 (itemC_one hu.one _) ?_
   refine LW.nil (AW.b (AW.ts [12] 0 (TW.as ?_)))
   refine TW.nil (AW.d ?_)
   refine NW.go uL 3 rfl ?_
   rcases hgt:stoGet x.s o.id with _ | y
   . refine LW.go uL 2 rfl ?_
     refine LW.front (p:=(cs.eraseIdx i).flatten) .t (LW.front (p:=[cr q 93 (colC x ps px)]++(rs++rx)) .n3 (LW.unfoc (flat_get hci) ?_))
     refine LW.go uL 6 rfl (LW.ld one9 ?_)
     refine LW.go uL 1 rfl (LW.eT (core_more W B p c _ im o.col x hc' hax) cl156 (Take.both .n4 .t) ?_)
     refine LW.go uL 3 rfl (LW.eG (core_Free W B p c _ im hc') cl130 ?_)
     refine LW.go uL 1 rfl (LW.gtr false rfl rfl (decide_eq_false (fun h=>e5 ⟨by rw [hgt];rfl,h⟩)) rfl ?_)
     refine LW.go uL 12 rfl ?_
     refine NW.r1 ⟨_,⟨rfl,rfl⟩,?_⟩
     exact (Sub.one .t)
   . refine LW.go uL 2 rfl ?_
     refine LW.front (p:=(cs.eraseIdx i).flatten) .t (LW.front (p:=[cr q 93 (colC x ps px)]++(rs++rx)) .n3 (LW.unfoc (flat_get hci) ?_))
     refine LW.go uL 20 rfl ?_
     refine NW.r1 ⟨_,⟨rfl,rfl⟩,?_⟩
     simp only [List.append_assoc];exact .s5
 exact AWs.nil
end
end Go.Proofs.YtnlpccoigflheaaGreatDoor
