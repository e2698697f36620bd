/- TCorA TCorB TCorC -/
import Derived.Test.YtnlpccoigflheaaGreatDoorTCor9
import Derived.Test.YtnlpccoigflheaaGreatDoorFac
namespace Go.Proofs.YtnlpccoigflheaaGreatDoor
open Go.RowKit
open Go.Proofs.Tryz
def TuN:Tbl:=⟨[(32,0,0),(32,1,1),(32,3,3),(32,7,7),(32,10,10),(93,3,3),(114,0,0)],[],[]⟩
theorem uN:TuN.Ok Tryz.prog:=.of trivial
theorem ColsR.del {W:World}{B:Nat}{im:List Row}{id:Nm}{nd:ColP}:∀ {es:List (Nm×Nat)} {g:List (Nm×ColP)} {cs:List (List Row)},ColsR W B im es g cs->aget g id=some nd ->
  ∃ i c,cs[i]?=some c/\ColsR W B im (es.eraseIdx i) (adel g id) (cs.eraseIdx i)/\esC (es.eraseIdx i)=mdel (esC es) id
 | [],[],[],_,h=>by cases h
 | [],_::_,_,h,_=>h.elim
 | [],[],_::_,h,_=>h.elim
 | _::_,[],_,h,_=>h.elim
 | _::_,_::_,[],h,_=>h.elim
 | (a,b)::es,(a',x)::g,c::cs,⟨h1,h2,h3⟩,ha=>by
  simp only at h1 h2
  subst h1
  simp only [aget] at ha
  by_cases he:a=id
  . refine⟨0,c,rfl,?_,?_⟩
    . simp only [adel,if_pos he,List.eraseIdx_zero,List.tail_cons];exact h3
    . simp only [esC,List.map_cons,mdel,if_pos he,List.eraseIdx_zero,List.tail_cons]
  . rw [if_neg he] at ha
    obtain⟨i,c',a1,a2,a3⟩:=ColsR.del h3 ha
    refine⟨i+1,c',by simpa using a1,?_,?_⟩
    . simp only [adel,if_neg he,List.eraseIdx_cons_succ];exact⟨rfl,h2,a2⟩
    . simp only [esC,List.map_cons,mdel,if_neg he,List.eraseIdx_cons_succ] at a3 |-;rw [a3]
theorem adel_sub {κ α:Type}[DecidableEq κ]{k:κ}:∀ {l:List (κ×α)},(adel l k).Sublist l
 | []=>List.Sublist.refl _
 | (a,w)::r=>by
  simp only [adel]
  split
  . exact List.sublist_cons_self _ _
  . exact (adel_sub (l:=r)).cons_cons _
theorem adel_sum {κ α:Type}[DecidableEq κ]{k:κ}(f:κ×α->Nat):∀ {l:List (κ×α)},((adel l k).map f).sum<=(l.map f).sum
 | []=>Nat.le_refl _
 | (a,w)::r=>by
  simp only [adel]
  split
  . simp only [List.map_cons,List.sum_cons];omega
  . have:=adel_sum (k:=k) f (l:=r)
    simp only [List.map_cons,List.sum_cons];omega
theorem adel_aset {κ α:Type}[DecidableEq κ]{k:κ}{x:α}:∀ {l:List (κ×α)},adel (aset l k x) k=adel l k
 | []=>by simp [aset,adel]
 | (a,w)::r=>by
  simp only [aset,adel]
  split
  . simp [adel, *]
  . rename_i h;simp only [adel,if_neg h];rw [adel_aset]
def dropQ (c:CorP)(o:OpP):CorP:={ c with cols:=adel c.cols o.col }
theorem dropQ_ok {c:CorP}{o:OpP}(h:CorOk c):CorOk (dropQ c o):=
 ⟨h.mv,h.of_,List.Sublist.nodup (adel_sub.map _) h.nd,List.Sublist.nodup (adel_sub.map _) h.pl,Nat.le_trans (adel_sum fun y=>colBlocks c y.1 y.2) h.used,Nat.le_trans adel_sub.length_le h.len,h.al,h.s0,fun y hy=>h.sq y (adel_mem hy)⟩
def aliasQ (c:CorP)(o:OpP):CorP:={ c with alias:=if o.col=[] then adel c.alias o.name else aset c.alias o.name o.col }
theorem aliasQ_ok {c:CorP}{o:OpP}(h:CorOk c)(hl:(aliasQ c o).alias.length<=6):CorOk (aliasQ c o):=⟨h.mv,h.of_,h.nd,h.pl,h.used,h.len,hl,h.s0,h.sq⟩
theorem aliasQ_len {c:CorP}{o:OpP}(h:CorOk c)(he:namesE c o=0):(aliasQ c o).alias.length<=6:=by
 have:=h.al
 unfold aliasQ
 simp only
 unfold namesE at he
 split at he
 . cases he
 split
 . exact Nat.le_trans adel_sub.length_le h.al
 . rename_i hce
   rw [if_neg hce] at he
   split at he
   . cases he
   split at he
   . cases he
   split at he
   . cases he
   rename_i e4
   rw [aset_length]
   cases hq:aget c.alias o.name with
   | none=>simp only [Option.isSome_none,Bool.false_eq_true,if_false];by_cases h6:c.alias.length>=6;exact absurd ⟨by rw [hq];rfl,h6⟩ e4;omega
   | some u=>simp only [Option.isSome_some,if_true];omega
section
variable (W:World)(B:Nat)
theorem core_Do2 (p:Nat)(c:CorP)(rows im:List Row)(vv:Value)(o:OpP)(hc:CorR W B im p c rows)(hv:VecAt W B im vv o.vec)(hk:o.kind=2)(hcs:(aget c.cols o.col).isSome=true)(hna:c.alias.any (fun y=>y.2==o.col)=false)(hs:c.seq<1000000000) :
  Spec prog W B 23 [ptr p,opV vv o] (rows++im) (fun r post=>r=.tuple #[.agg rep0.toArray,.nilIface]/\∃ rows',CorR W B im p (dropQ (seqP c) o) rows'/\post=rows'++im):=by
 have hcan:=core_can2 W B p c rows im vv o hc hv hk hcs
 rw [hna] at hcan
 have hbx:=opV_cells hv o
 have hv1:=hv.one
 obtain⟨mv,chm,av,cha,es,cs,h1,h2,h3,rfl,h5⟩:=hc
 obtain⟨x,hax⟩:=Option.isSome_iff_exists.1 hcs
 obtain⟨i,rc,hci,hcd,hce⟩:=h2.del hax
 have hs0:=h5.s0
 refine Spec.eG [[cr p 114 (corC mv av c)]++(chm++(cha++cs.flatten))++im] func23 ntmps23 fun w0=>?_
 refine CW.go uN 2 rfl (LW.bx ?_)
 intro bb3
 refine LW.alloc zero41 rfl ?_
 intro ba4
 refine LW.go uN 5 rfl ?_
 rw [hbx]
 refine CW.go uN 2 rfl (LW.lA (opC vv o) underlying32 szt32 ?_)
 refine LW.cG (core_Can W B p _ im vv o 0 hv hcan) cl18 ?_
 rintro r _ ⟨ch,hr,rfl⟩;obtain⟨rfl,rfl⟩:=hr.zero;refine LW.splitA (LW.splitB (LW.splitB (LW.splitC (LW.splitD ?_))))
 refine LW.go uN 6 rfl (LW.ifaceNotNil _ rfl underlying43 (.inl ⟨rfl,rfl⟩) rfl ?_)
 refine LW.go uN 10 rfl (LW.load (v:=.int .i64 c.seq) rfl .t (rfl) one2 rfl ?_)
 refine LW.ad ((c.seq+1)) ?_
 refine LW.go uN 2 rfl (LW.sr sz2 ?_)
 refine LW.go uN 11 rfl (LW.load (v:=.int .i64 2) rfl .t (by rw [<- hk];rfl) one3 rfl ?_)
 refine LW.go uN 5 rfl (LW.eqlF ?_)
 refine LW.go uN 6 rfl (LW.eqlT ?_)
 refine LW.go uN 4 rfl (CW.drawH [cr p 114 (corC mv av (seqP c)),cr bb3 32 (opC vv o)] mixed ?_)
 refine AW.ts [0,1,2,3,4,5] 1 (TW.mv ?_)
 refine TW.np ?_
 refine TW.fa fa114_1 ?_
 refine TW.ld one111 ?_
 refine TW.fa fa32_1 ?_
 refine TW.ld one9 ?_
 refine TW.nil (AW.a 6 ?_)
 refine LW.mapDelG rfl rfl keyStr (h1) .t underlying111 underlying9 rfl ?_
 intro chm' h1'
 refine LW.nil (AW.b (AW.d ?_))
 refine NW.go uN 5 rfl ?_
 refine LW.front (p:=cs.flatten) .t (LW.foc (flat_get hci) ?_)
 refine LW.bd [_] (rep0.toArray) ?_
 refine LW.sA (rep0) szt41 (rep0_one) ?_
 refine LW.go uN 4 rfl ?_
 refine NW.res2 rfl (.cell (rep0) rfl .t zd underlying41 rfl szt41) (.tmp rfl) ⟨_,⟨rfl,[cr p 114 (corC mv av (dropQ (seqP c) o))]++(chm'++(cha++(cs.eraseIdx i).flatten)),⟨mv,chm',av,cha,es.eraseIdx i,cs.eraseIdx i,by rw [hce];exact h1',hcd,h3,rfl,dropQ_ok (seqP_ok h5 hs)⟩,rfl⟩,?_⟩
 simp only [List.append_assoc];exact .s5
theorem core_Do5 (p:Nat)(c:CorP)(rows im:List Row)(vv:Value)(o:OpP)(hc:CorR W B im p c rows)(hv:VecAt W B im vv o.vec)(hk:o.kind=5)(hnl:o.name.length<=1000000)(he:namesE c o=0)(hs:c.seq<1000000000) :
   Spec prog W B 23 [ptr p,opV vv o] (rows++im) (fun r post=>r=.tuple #[.agg rep0.toArray,.nilIface]/\∃ rows',CorR W B im p (aliasQ (seqP c) o) rows'/\post=rows'++im):=by
 have hcan:=core_can5 W B p c rows im vv o hc hv hk hnl he
 have hbx:=opV_cells hv o
 have hv1:=hv.one
 have hok:=aliasQ_ok (o:=o) (seqP_ok hc.ok hs) (show (aliasQ c o).alias.length<=6 from aliasQ_len hc.ok he)
 obtain⟨mv,chm,av,cha,es,cs,h1,h2,h3,rfl,h5⟩:=hc
 have hs0:=h5.s0
 by_cases hce:o.col=[]
 . have ha:(aliasQ (seqP c) o).alias=adel c.alias o.name:=by unfold aliasQ;simp only;rw [if_pos hce];rfl
   refine Spec.eG [[cr p 114 (corC mv av c)]++(chm++(cha++cs.flatten))++im] func23 ntmps23 fun w0=>?_
   refine CW.go uN 2 rfl (LW.bx ?_)
   intro bb3
   refine LW.alloc zero41 rfl ?_
   intro ba4
   refine LW.go uN 5 rfl ?_
   rw [hbx]
   refine CW.go uN 2 rfl (LW.lA (opC vv o) underlying32 szt32 ?_)
   refine LW.cG (core_Can W B p _ im vv o 0 hv hcan) cl18 ?_
   rintro r _ ⟨ch,hr,rfl⟩;obtain⟨rfl,rfl⟩:=hr.zero;refine LW.splitA (LW.splitB (LW.splitB (LW.splitC (LW.splitD ?_))))
   refine LW.go uN 6 rfl (LW.ifaceNotNil _ rfl underlying43 (.inl ⟨rfl,rfl⟩) rfl ?_)
   refine LW.go uN 10 rfl (LW.load (v:=.int .i64 c.seq) rfl .t (rfl) one2 rfl ?_)
   refine LW.ad ((c.seq+1)) ?_
   refine LW.go uN 2 rfl (LW.sr sz2 ?_)
   refine LW.go uN 11 rfl (LW.load (v:=.int .i64 5) rfl .t (by rw [<- hk];rfl) one3 rfl ?_)
   refine LW.go uN 5 rfl (LW.eqlF ?_)
   refine LW.go uN 6 rfl (LW.eqlF ?_)
   refine LW.go uN 6 rfl (LW.eqlF ?_)
   refine LW.go uN 6 rfl (LW.eqlF ?_)
   refine LW.go uN 6 rfl (LW.eqlT ?_)
   refine LW.go uN 5 rfl (CW.drawH [cr p 114 (corC mv av (seqP c)),cr bb3 32 (opC vv o)] mixed ?_)
   refine AW.ts [0,1,2,3,4,5,6,7] 1 (TW.mv ?_)
   refine TW.np ?_
   refine TW.fa fa114_2 ?_
   refine TW.ld one34 ?_
   refine TW.fa fa32_2 ?_
   refine TW.ld one9 ?_
   refine TW.fa fa32_1 ?_
   refine TW.ld one9 ?_
   refine TW.nil (AW.a 8 ?_)
   refine LW.mapSetG rfl rfl rfl keyStr (h3) .t underlying34 underlying9 ?_
   intro cha' h3';rw [alV_set] at h3'
   refine LW.nil (AW.b (AW.d ?_))
   refine NW.go uN 4 rfl (LW.ld one9 ?_)
   refine LW.strEql (true) rfl rfl underlying9 (decide_eq_true (by simp [hce])) rfl ?_
   refine LW.go uN 3 rfl (CW.drawH [cr p 114 (corC mv av (seqP c)),cr bb3 32 (opC vv o)] mixed ?_)
   refine AW.ts [0,1,2,3,4,5] 1 (TW.mv ?_)
   refine TW.np ?_
   refine TW.fa fa114_2 ?_
   refine TW.ld one34 ?_
   refine TW.fa fa32_2 ?_
   refine TW.ld one9 ?_
   refine TW.nil (AW.a 6 ?_)
   refine LW.mapDelG rfl rfl keyStr (h3') .t underlying34 underlying9 rfl ?_
   intro cha2 h32;rw [alV_del,adel_aset] at h32
   refine LW.nil (AW.b (AW.d ?_))
   refine NW.go uN 5 rfl (LW.bd [_] (rep0.toArray) ?_)
   refine LW.sA (rep0) szt41 (rep0_one) ?_
   refine LW.go uN 4 rfl ?_
   refine NW.res2 rfl (.cell (rep0) rfl .t zd underlying41 rfl szt41) (.tmp rfl) ⟨_,⟨rfl,[cr p 114 (corC mv av (aliasQ (seqP c) o))]++(chm++(cha2++cs.flatten)),⟨mv,chm,av,cha2,es,cs,h1,h2,by rw [ha];exact h32,rfl,hok⟩,rfl⟩,?_⟩
   simp only [List.append_assoc];exact .s5
 . have ha:(aliasQ (seqP c) o).alias=aset c.alias o.name o.col:=by unfold aliasQ;simp only;rw [if_neg hce];rfl
   refine Spec.eG [[cr p 114 (corC mv av c)]++(chm++(cha++cs.flatten))++im] func23 ntmps23 fun w0=>?_
   refine CW.go uN 2 rfl (LW.bx ?_)
   intro bb3
   refine LW.alloc zero41 rfl ?_
   intro ba4
   refine LW.go uN 5 rfl ?_
   rw [hbx]
   refine CW.go uN 2 rfl (LW.lA (opC vv o) underlying32 szt32 ?_)
   refine LW.cG (core_Can W B p _ im vv o 0 hv hcan) cl18 ?_
   rintro r _ ⟨ch,hr,rfl⟩;obtain⟨rfl,rfl⟩:=hr.zero;refine LW.splitA (LW.splitB (LW.splitB (LW.splitC (LW.splitD ?_))))
   refine LW.go uN 6 rfl (LW.ifaceNotNil _ rfl underlying43 (.inl ⟨rfl,rfl⟩) rfl ?_)
   refine LW.go uN 10 rfl (LW.load (v:=.int .i64 c.seq) rfl .t (rfl) one2 rfl ?_)
   refine LW.ad ((c.seq+1)) ?_
   refine LW.go uN 2 rfl (LW.sr sz2 ?_)
   refine LW.go uN 11 rfl (LW.load (v:=.int .i64 5) rfl .t (by rw [<- hk];rfl) one3 rfl ?_)
   refine LW.go uN 5 rfl (LW.eqlF ?_)
   refine LW.go uN 6 rfl (LW.eqlF ?_)
   refine LW.go uN 6 rfl (LW.eqlF ?_)
   refine LW.go uN 6 rfl (LW.eqlF ?_)
   refine LW.go uN 6 rfl (LW.eqlT ?_)
   refine LW.go uN 5 rfl (CW.drawH [cr p 114 (corC mv av (seqP c)),cr bb3 32 (opC vv o)] mixed ?_)
   refine AW.ts [0,1,2,3,4,5,6,7] 1 (TW.mv ?_)
   refine TW.np ?_
   refine TW.fa fa114_2 ?_
   refine TW.ld one34 ?_
   refine TW.fa fa32_2 ?_
   refine TW.ld one9 ?_
   refine TW.fa fa32_1 ?_
   refine TW.ld one9 ?_
   refine TW.nil (AW.a 8 ?_)
   refine LW.mapSetG rfl rfl rfl keyStr (h3) .t underlying34 underlying9 ?_
   intro cha' h3';rw [alV_set] at h3'
   refine LW.nil (AW.b (AW.d ?_))
   refine NW.go uN 4 rfl (LW.ld one9 ?_)
   refine LW.strEql (false) rfl rfl underlying9 (decide_eq_false (by simp [hce])) rfl ?_
   refine LW.go uN 9 rfl (LW.bd [_] (rep0.toArray) ?_)
   refine LW.sA (rep0) szt41 (rep0_one) ?_
   refine LW.go uN 4 rfl ?_
   refine NW.res2 rfl (.cell (rep0) rfl .t zd underlying41 rfl szt41) (.tmp rfl) ⟨_,⟨rfl,[cr p 114 (corC mv av (aliasQ (seqP c) o))]++(chm++(cha'++cs.flatten)),⟨mv,chm,av,cha',es,cs,h1,h2,by rw [ha];exact h3',rfl,hok⟩,rfl⟩,?_⟩
   simp only [List.append_assoc];exact .s5
end
open Go.RowKit
theorem ColsR.get' {W:World}{B:Nat}{im:List Row}{id:Nm}{nd:ColP}:∀ {es:List (Nm×Nat)} {g:List (Nm×ColP)} {cs:List (List Row)},ColsR W B im es g cs->aget g id=some nd ->
  ∃ i b c,mget (esC es) id=some (ptr b)/\cs[i]?=some c/\ColR W B im b nd c/\∀ im',(∀ y∈im,y∈im')->∀ nd' c',ColR W B im' b nd' c'->ColsR W B im' es (aset g id nd') (cs.set i c')
 | [],[],[],_,h=>by cases h
 | [],_::_,_,h,_=>h.elim
 | [],[],_::_,h,_=>h.elim
 | _::_,[],_,h,_=>h.elim
 | _::_,_::_,[],h,_=>h.elim
 | (a,b)::es,(a',x)::g,c::cs,⟨h1,h2,h3⟩,ha=>by
  simp only at h1 h2
  subst h1
  simp only [aget] at ha
  simp only [esC,List.map_cons,mget]
  by_cases he:a=id
  . rw [if_pos he] at ha;cases ha
    refine⟨0,b,c,by rw [if_pos he],rfl,h2,fun im' hi nd' c' h=>?_⟩
    simp only [aset,if_pos he]
    exact⟨rfl,h,h3.more hi⟩
  . rw [if_neg he] at ha
    obtain⟨i,b',c',a1,a2,a3,a4⟩:=ColsR.get' h3 ha
    refine⟨i+1,b',c',by rw [if_neg he];exact a1,by simpa using a2,a3,fun im' hi nd' c'' h=>?_⟩
    simp only [aset,if_neg he]
    exact⟨rfl,h2.more hi,a4 im' hi nd' c'' h⟩
theorem aset_map {κ α β:Type}[DecidableEq κ]{k:κ}{x x':α}(f:κ×α->β)(hf:f (k,x')=f (k,x)):∀ {l:List (κ×α)},aget l k=some x->(aset l k x').map f=l.map f
 | [],h=>by cases h
 | (a,w)::r,h=>by
  simp only [aget] at h
  simp only [aset]
  split
  . rename_i he
    rw [if_pos he] at h
    cases h
    subst he
    simp only [List.map_cons,hf]
  . rename_i he
    rw [if_neg he] at h
    simp only [List.map_cons,aset_map f hf h]
def putQ (c:CorP)(o:OpP)(x:ColP):CorP:={ c with cols:=aset c.cols o.col (colPut x o c.seq) }
theorem stoSeq_le {s:StoP}{n:Int}(h:∀ it∈s,it.2.seq<=n)(h0:0<=n)(id:Int):stoSeq s id<=n:=by
 unfold stoSeq
 cases ha:aget s id with
 | none=>exact h0
 | some x=>exact h _ (aget_mem ha)
theorem putQ_ok {c:CorP}{o:OpP}{x:ColP}(h:CorOk c)(ha:aget c.cols o.col=some x)(hU:usedP (putQ c o x)<=64):CorOk (putQ c o x):=by
 refine⟨h.mv,h.of_,aset_nodup h.nd,?_,hU,?_,h.al,h.s0,fun y hy=>?_⟩
 . have:(aset c.cols o.col (colPut x o c.seq)).map (·.2.place)=c.cols.map (·.2.place):=aset_map (x:=x) (x':=colPut x o c.seq) (fun y=>y.2.place) rfl ha
   show ((aset c.cols o.col (colPut x o c.seq)).map (·.2.place)).Nodup
   rw [this];exact h.pl
 . show (aset c.cols o.col (colPut x o c.seq)).length<=4
   rw [aset_length,ha];exact h.len
 . rcases aset_keys_mem hy with rfl | hy
   . intro it hi
     rcases aset_keys_mem hi with rfl | hi
     . exact Int.le_refl _
     . exact h.sq _ (aget_mem ha) it hi
   . exact h.sq y hy
section
variable (W:World)(B:Nat)
set_option maxHeartbeats 1000000 in
theorem core_Do3 (ht:Tab W B)(p:Nat)(c:CorP)(rows im:List Row)(vv:Value)(o:OpP)(x:ColP)(hc:CorR W B im p c rows)(hv:VecAt W B im vv o.vec)(hk:o.kind=3)(he:putE c o=0)(hax:aget c.cols o.col=some x)(hs:c.seq<1000000000)(hd0:0<=o.draw)(hdr:o.draw<4294967296)(hU:usedP (putQ (seqP c) o x)<=64)(hpl:o.pay.length<=1000000)(hvl:o.vec.length<=1000000) :
   Spec prog W B 23 [ptr p,opV vv o] (rows++im) (fun r post=>r=.tuple #[.agg rep0.toArray,.nilIface]/\∃ rows' ch,CorR W B (ch++im) p (putQ (seqP c) o x) rows'/\post=rows'++(ch++im)):=by
 have hcan:=core_can3 W B p c rows im vv o hc hv hk hpl hvl he
 have hbx:=opV_cells hv o
 have hv1:=hv.one
 have hv':=hv
 obtain⟨A,cp,rfl,_⟩:=hv'
 obtain⟨mv,chm,av,cha,es,cs,h1,h2,h3,rfl,h5⟩:=hc
 have hs0:=h5.s0
 have hok:=putQ_ok (seqP_ok h5 hs) (show aget (seqP c).cols o.col=some x from hax) hU
 obtain⟨i,q,rc,hg,hci,hcr,hset⟩:=h2.get' hax
 obtain⟨ps,px,rs,rx,hst,hix,rfl,hxd,hfl,hp4⟩:=hcr
 unfold putE at he
 rw [hax] at he
 simp only at he
 split at he
 . cases he
 rename_i e1
 split at he
 . cases he
 rename_i e2
 split at he
 . cases he
 rename_i e3
 clear he
 have hmay:mayV o.vec (x.dim:Int)=true:=by cases hq:mayV o.vec (x.dim:Int) with | true=>rfl | false=>exact absurd hq e2
 have hmv:=mayV_of hmay
 have h18:x.dim<=8:=by obtain⟨_,_,_,_,_,_,_,_,_,h8⟩:=hix;omega
 have hvo:VOk o.vec:=⟨by omega,hmv.2⟩
 have hid:IdOk o.id:=by unfold IdOk;omega
 have hseq:stoPutE x.s o.id o.pay (c.seq+1)=0:=by
   unfold stoPutE
   have:stoSeq x.s o.id<=c.seq:=stoSeq_le (h5.sq _ (aget_mem hax)) hs0.1 o.id
   rw [if_neg e1,if_neg e3,if_neg (by omega)]
 obtain⟨l,hl⟩:=hfl
 have hil:i<cs.length:=(List.getElem?_eq_some_iff.1 hci).1
 obtain⟨dr,hdn⟩:∃ dr:Nat,o.draw=(dr:Int):=⟨o.draw.toNat,by omega⟩
 refine Spec.eG [[cr p 114 (corC mv av c)]++(chm++(cha++cs.flatten))++im] func23 ntmps23 fun w0=>?_
 refine CW.go uN 2 rfl (LW.bx ?_)
 intro bb3
 refine LW.alloc zero41 rfl ?_
 intro ba4
 refine LW.go uN 5 rfl ?_
 rw [hbx]
 refine CW.go uN 2 rfl (LW.lA (opC (.slice A o.vec.length cp) o) underlying32 szt32 ?_)
 refine LW.cG (core_Can W B p _ im (.slice A o.vec.length cp) o 0 hv hcan) cl18 ?_
 rintro r _ ⟨ch,hr,rfl⟩;obtain⟨rfl,rfl⟩:=hr.zero;refine LW.splitA (LW.splitB (LW.splitB (LW.splitC (LW.splitD ?_))))
 refine LW.go uN 6 rfl (LW.ifaceNotNil _ rfl underlying43 (.inl ⟨rfl,rfl⟩) rfl ?_)
 refine LW.go uN 10 rfl (LW.load (v:=.int .i64 c.seq) rfl .t (rfl) one2 rfl ?_)
 refine LW.ad ((c.seq+1)) ?_
 refine LW.go uN 2 rfl (LW.sr sz2 ?_)
 refine LW.go uN 11 rfl (LW.load (v:=.int .i64 3) rfl .t (by rw [<- hk];rfl) one3 rfl ?_)
 refine LW.go uN 5 rfl (LW.eqlF ?_)
 refine LW.go uN 6 rfl (LW.eqlF ?_)
 refine LW.go uN 6 rfl (LW.eqlT ?_)
 refine LW.go uN 5 rfl (CW.drawH [cr p 114 (corC mv av (seqP c)),cr bb3 32 (opC (.slice A o.vec.length cp) o)] mixed ?_)
 refine AW.ts [0,1,2,3,4,5] 2 (TW.mv ?_)
 refine TW.np ?_
 refine TW.fa fa114_1 ?_
 refine TW.ld one111 ?_
 refine TW.fa fa32_1 ?_
 refine TW.ld one9 ?_
 refine TW.nil (AW.a 6 ?_)
 refine LW.mapLookG false ( (mget (esC es) o.col)) rfl rfl keyStr (h1) .t underlying111 underlying9 zero87 (rfl) rfl ?_
 simp only [hg,Bool.false_eq_true,if_false,Option.getD_some]
 refine LW.nil (AW.b (AW.ts [7] 0 (TW.as ?_)))
 refine TW.nil (AW.d ?_)
 refine NW.go uN 2 rfl ?_
 refine CW.front (p:=cs.flatten) .t (CW.foc (flat_get hci) (CW.splitA (CW.splitB ?_)))
 refine CW.drawH [cr p 114 (corC mv av (seqP c)),cr bb3 32 (opC (.slice A o.vec.length cp) o),cr q 93 (colC x ps px)] mixed ?_
 refine AW.ts [0,1,2,3,4,5,6,7,8,9,10,11,12,13] 1 (TW.mv ?_)
 refine TW.np ?_
 refine TW.fa fa93_3 ?_
 refine TW.ld one90 ?_
 refine TW.fa fa32_3 ?_
 refine TW.ld one3 ?_
 refine TW.fa fa32_7 ?_
 refine TW.ld one25 ?_
 refine TW.fa fa32_8 ?_
 refine TW.ld one9 ?_
 refine TW.mv ?_
 refine TW.np ?_
 refine TW.fa fa114_0 ?_
 refine TW.ld one2 ?_
 refine TW.nil (AW.a 14 ?_)
 refine LW.cT (store_Put W B ps x.s rs im o.id (.slice A o.vec.length cp) o.vec o.pay (c.seq+1) hst hv hvo hseq) cl48 .n2 ?_
 rintro _ _ ⟨rfl,rs',ch1,hst',rfl⟩;refine LW.splitA ?_
 refine LW.nil (AW.b (AW.d ?_))
 refine NW.go uN 2 rfl (CW.drawH [cr q 93 (colC x ps px),cr bb3 32 (opC (.slice A o.vec.length cp) o)] mixed ?_)
 refine AW.ts [0,1,2,3,4,5,6,7,8,9] 1 (TW.mv ?_)
 refine TW.np ?_
 refine TW.fa fa93_4 ?_
 refine TW.ld one91 ?_
 refine TW.fa fa32_3 ?_
 refine TW.ld one3 ?_
 refine TW.fa fa32_7 ?_
 refine TW.ld one25 ?_
 refine TW.fa fa32_10 ?_
 refine TW.take rfl (Yl.load (v:=.int .u32 (dr:Int)) rfl (by repeat (first | exact List.Mem.head _ | refine List.Mem.tail _ ?_)) (by rw [<- hdn];rfl) one30) rfl ?_
 refine TW.nil (AW.a 10 ?_)
 refine LW.cT (idx_Put W B ht px x.x rx (ch1++im) o.id (.slice A o.vec.length cp) o.vec dr (hix.more fun y hy=>List.mem_append_right _ hy) (hv.more fun y hy=>List.mem_append_right _ hy) (by rw [hxd];exact hmay) hid (by omega) (fun g h=>by rw [hl] at h;cases h)) cl49 .n2 ?_
 rintro _ _ ⟨rfl,rx',ch2,hix',rfl⟩;refine LW.splitA ?_
 refine LW.nil (AW.b (AW.d ?_))
 refine NW.go uN 1 rfl ?_
 have hcol:ColR W B (ch2++(ch1++im)) q (colPut x o (c.seq+1)) ([cr q 93 (colC x ps px)]++(rs'++rx')):=⟨ps,px,rs',rx',hst'.more fun y hy=>List.mem_append_right _ hy,by show IdxR W B _ px (idxPut x.x o.id o.vec o.draw.toNat) rx';rw [hdn,Int.toNat_natCast];exact hix',rfl,hxd,⟨aset l o.id o.vec,by show (idxPut x.x o.id o.vec o.draw.toNat).x=_;unfold idxPut;simp only [hl]⟩,hp4⟩
 have hcs2:=hset _ (fun y hy=>List.mem_append_right _ (List.mem_append_right _ hy)) _ _ hcol
 have hc2:CorR W B (ch2++(ch1++im)) p (putQ (seqP c) o x) ([cr p 114 (corC mv av (putQ (seqP c) o x))]++(chm++(cha++(cs.set i ([cr q 93 (colC x ps px)]++(rs'++rx'))).flatten))):=⟨mv,chm,av,cha,es,_,h1,hcs2,h3,rfl,hok⟩
 refine CW.go uN 3 rfl (LW.ld one9 ?_)
 refine LW.go uN 1 rfl (LW.ld one3 ?_)
 refine LW.go uN 1 rfl (LW.ld one25 ?_)
 refine LW.go uN 1 rfl (LW.load (v:=.int .u32 (dr:Int)) rfl .t (by rw [<- hdn];rfl) one30 rfl ?_)
 refine LW.bd [_,_,_] ((chaC (.slice A o.vec.length cp) ⟨o.id,o.vec,dr,false⟩).toArray) ?_
 refine LW.front (p:=(cs.eraseIdx i).flatten) .t (LW.front (p:=[cr q 93 (colC x ps px)]++(rs'++rx')) .n3 (LW.unfoc (flat_set hil) ?_))
 refine LW.eT (core_notes W B p (putQ (seqP c) o x) _ (ch2++(ch1++im)) o.col (.slice A o.vec.length cp) ⟨o.id,o.vec,dr,false⟩ hc2 (hv.more fun y hy=>List.mem_append_right _ (List.mem_append_right _ hy))) cl50 .n4 ?_
 refine LW.go uN 6 rfl (LW.bd [_] (rep0.toArray) ?_)
 refine LW.sA (rep0) szt41 (rep0_one) ?_
 refine LW.go uN 4 rfl ?_
 refine NW.res2 rfl (.cell (rep0) rfl .t zd underlying41 rfl szt41) (.tmp rfl) ⟨_,⟨rfl,_,ch2++ch1,hc2.more (fun y hy=>by rw [List.append_assoc];exact hy),rfl⟩,?_⟩
 rw [List.append_assoc ch2];exact .s2
end
open Go.RowKit
section
variable (W:World)(B:Nat)
theorem core_Ask13 (p:Nat)(c:CorP)(rows im:List Row)(vv:Value)(o:OpP)(x:ColP)(kn:Nat)(hc:CorR W B im p c rows)(hv:VecAt W B im vv o.vec)(hk:o.kind=13)(hf:findP c o.col=some x)(hm:mayV o.vec (x.dim:Int)=true)(hkn:o.k=(kn:Int))(hk20:kn<=20) :
  Spec prog W B 17 [ptr p,opV vv o] (rows++im) (fun r post=>∃ u ch,r=.tuple #[repV (.slice none 0 0) ItemP.none u 0,.nilIface]/\OwnS 72 2 u (idxS x.x o.vec kn).length (hitsC (idxS x.x o.vec kn)) ch/\post=ch++(rows++im)):=by
 have hbx:=opV_cells hv o
 have hv1:=hv.one
 refine Spec.eG [rows,im] func17 ntmps17 fun w0=>?_
 refine CW.go uN 2 rfl (LW.bx ?_)
 intro bb3
 refine LW.alloc zero41 rfl ?_
 intro ba4
 refine LW.go uN 5 rfl ?_
 rw [hbx]
 refine CW.go uN 2 rfl (LW.pn underlying60 ?_)
 refine LW.go uN 9 rfl (LW.load (v:=.int .i64 13) rfl .t (by rw [<- hk];rfl) one3 rfl ?_)
 refine LW.eqlF ?_
 refine LW.go uN 9 rfl (LW.load (v:=.int .i64 13) rfl .t (by rw [<- hk];rfl) one3 rfl ?_)
 refine LW.neqT ?_
 refine LW.go uN 4 rfl (LW.load (v:=.int .i64 13) rfl .t (by rw [<- hk];rfl) one3 rfl ?_)
 refine LW.go uN 1 rfl (LW.neqF ?_)
 refine LW.go uN 15 rfl (LW.ld one9 ?_)
 refine LW.cG (core_find W B p c rows im o.col x hc hf) cl34 ?_
 rintro _ _ ⟨⟨q,rc,rest,rfl,hcr,hperm⟩,hpost⟩;rw [hpost];clear hpost;obtain⟨ps,px,rs,rx,hst,hix,rfl,hxd,_⟩:=hcr
 refine LW.go uN 7 rfl (LW.pn underlying87 ?_)
 refine LW.go uN 9 rfl (LW.load (v:=.int .i64 13) rfl .t (by rw [<- hk];rfl) one3 rfl ?_)
 refine LW.go uN 5 rfl (LW.eqlF ?_)
 refine LW.go uN 6 rfl (LW.eqlT ?_)
 refine LW.go uN 5 rfl ?_
 refine CW.front (p:=rows) .t (CW.foc hperm.symm (CW.splitA (CW.splitB ?_)))
 refine CW.drawH [cr q 93 (colC x ps px),cr bb3 32 (opC vv o)] mixed ?_
 refine AW.ts [0,1,2,3,4,5,6,7] 6 (TW.mv ?_)
 refine TW.np ?_
 refine TW.fa fa93_4 ?_
 refine TW.ld one91 ?_
 refine TW.fa fa32_7 ?_
 refine TW.ld one25 ?_
 refine TW.fa fa32_9 ?_
 refine TW.take rfl (Yl.load (v:=.int .i64 (kn:Int)) rfl (by repeat (first | exact List.Mem.head _ | refine List.Mem.tail _ ?_)) (by rw [<- hkn];rfl) one3) rfl ?_
 refine TW.nil (AW.a 8 ?_)
 refine LW.cT (idx_Search W B px x.x rx im vv o.vec kn hix hv (by rw [hxd];exact hm) hk20) cl36 .n2 ?_
 rintro _ _ ⟨u,ch,rfl,hou,rfl⟩;obtain⟨A,cp,rfl,_,_⟩:=hou.val;refine LW.splitA (LW.splitB ?_)
 refine LW.nil (AW.b (AW.ts [9,10,11,12,13] 0 (TW.mv ?_)))
 refine TW.take rfl (Yl.extract rfl rfl) rfl ?_
 refine TW.take rfl (Yl.extract rfl rfl) rfl ?_
 refine TW.as ?_
 refine TW.as ?_
 refine TW.nil (AW.d ?_)
 refine NW.go uN 3 rfl ?_
 refine LW.front (p:=rest) .t (LW.front (p:=[cr q 93 (colC x ps px)]++(rs++rx)) .n3 (LW.unfoc hperm.symm ?_))
 refine LW.go uN 1 rfl (LW.bd [_] ((repC (.slice none 0 0) ItemP.none (.slice A (idxS x.x o.vec kn).length cp) 0).toArray) ?_)
 refine LW.go uN 1 rfl (LW.cT (core_at W B .nilIface 0 [] ErrR.none) cl32 ((Take.none _)) ?_)
 rintro r ch9 he;obtain⟨rfl,rfl⟩:=he.zero
 refine LW.sA (repC (.slice none 0 0) ItemP.none (.slice A (idxS x.x o.vec kn).length cp) 0) szt41 (repC_one rfl _ rfl _) ?_
 refine LW.go uN 6 rfl ?_
 refine NW.res2 rfl (.cell (repC (.slice none 0 0) ItemP.none (.slice A (idxS x.x o.vec kn).length cp) 0) rfl .t zd underlying41 rfl szt41) (.tmp rfl) ⟨_,⟨_,ch,rfl,hou,rfl⟩,?_⟩
 exact .s3
theorem core_Ask12 (p:Nat)(c:CorP)(rows im:List Row)(vv:Value)(o:OpP)(x:ColP)(it:ItemP)(hc:CorR W B im p c rows)(hv:VecAt W B im vv o.vec)(hk:o.kind=12)(hf:findP c o.col=some x)(hg:stoGet x.s o.id=some it) :
   Spec prog W B 17 [ptr p,opV vv o] (rows++im) (fun r post=>∃ u ch,r=.tuple #[repV u it (.slice none 0 0) 0,.nilIface]/\VecAt W B ch u it.vec/\post=ch++(rows++im)):=by
 have hbx:=opV_cells hv o
 have hv1:=hv.one
 refine Spec.eG [rows,im] func17 ntmps17 fun w0=>?_
 refine CW.go uN 2 rfl (LW.bx ?_)
 intro bb3
 refine LW.alloc zero41 rfl ?_
 intro ba4
 refine LW.go uN 5 rfl ?_
 rw [hbx]
 refine CW.go uN 2 rfl (LW.pn underlying60 ?_)
 refine LW.go uN 9 rfl (LW.load (v:=.int .i64 12) rfl .t (by rw [<- hk];rfl) one3 rfl ?_)
 refine LW.eqlF ?_
 refine LW.go uN 9 rfl (LW.load (v:=.int .i64 12) rfl .t (by rw [<- hk];rfl) one3 rfl ?_)
 refine LW.neqF ?_
 refine LW.go uN 19 rfl (LW.ld one9 ?_)
 refine LW.cG (core_find W B p c rows im o.col x hc hf) cl34 ?_
 rintro _ _ ⟨⟨q,rc,rest,rfl,hcr,hperm⟩,hpost⟩;rw [hpost];clear hpost;obtain⟨ps,px,rs,rx,hst,hix,rfl,hxd,_⟩:=hcr
 refine LW.go uN 7 rfl (LW.pn underlying87 ?_)
 refine LW.go uN 9 rfl (LW.load (v:=.int .i64 12) rfl .t (by rw [<- hk];rfl) one3 rfl ?_)
 refine LW.go uN 5 rfl (LW.eqlT ?_)
 refine LW.go uN 5 rfl ?_
 refine CW.front (p:=rows) .t (CW.foc hperm.symm (CW.splitA (CW.splitB ?_)))
 refine CW.drawH [cr q 93 (colC x ps px),cr bb3 32 (opC vv o)] mixed ?_
 refine AW.ts [0,1,2,3,4,5] 7 (TW.mv ?_)
 refine TW.np ?_
 refine TW.fa fa93_3 ?_
 refine TW.ld one90 ?_
 refine TW.fa fa32_3 ?_
 refine TW.ld one3 ?_
 refine TW.nil (AW.all [6,10] (by kernel_rfl) rfl ?_)
 refine AWs.cons rfl ?_ ?_
 . refine LW.cT (store_Get W B ps x.s rs im o.id hst) cl35 .n2 ?_
   rintro _ _ ⟨u,ch,rfl,hu,rfl⟩;rw [hg] at hu |-;replace hu:VecAt W B ch u it.vec:=hu;obtain⟨A,cp,rfl,_⟩:=id hu;refine LW.splitA (LW.splitB ?_)
   refine LW.nil (AW.b (AW.ts [7,8,9] 3 (TW.mv ?_)))
   refine TW.take rfl (Yl.extract rfl rfl) rfl ?_
   refine TW.take rfl (Yl.extract rfl rfl) rfl ?_
   refine TW.nil (AW.a 10 ?_)
   refine LW.alloc zero36 rfl ?_
   intro ba7
   refine LW.nil (AW.b (AW.a 11 ?_))
   refine LW.sA (itemC (.slice A it.vec.length cp) it) szt36 (itemC_one rfl it) ?_
   refine LW.nil (AW.b (AW.ts [12] 0 (TW.as ?_)))
   refine TW.nil (AW.d ?_)
   refine NW.go uN 13 rfl ?_
   refine LW.front (p:=rest) .t (LW.front (p:=[cr q 93 (colC x ps px)]++(rs++rx)) .n3 (LW.unfoc hperm.symm ?_))
   refine LW.lA (itemC (.slice A it.vec.length cp) it) underlying36 szt36 ?_
   refine LW.bd [_] ((repC (.slice A it.vec.length cp) it (.slice none 0 0) 0).toArray) ?_
   refine LW.sA (repC (.slice A it.vec.length cp) it (.slice none 0 0) 0) szt41 (repC_one rfl _ rfl _) ?_
   refine LW.go uN 6 rfl ?_
   refine NW.res2 rfl (.cell (repC (.slice A it.vec.length cp) it (.slice none 0 0) 0) rfl .t zd underlying41 rfl szt41) (.tmp rfl) ⟨_,⟨_,ch,rfl,hu,rfl⟩,?_⟩
   exact .s3
 refine AWs.cons rfl ?_ ?_
 . refine LW.alloc zero36 rfl ?_
   intro ba7
   refine LW.nil (AW.b (AW.a 6 ?_))
   refine LW.cT (store_Get W B ps x.s rs im o.id hst) cl35 .n2 ?_
   rintro _ _ ⟨u,ch,rfl,hu,rfl⟩;rw [hg] at hu |-;replace hu:VecAt W B ch u it.vec:=hu;obtain⟨A,cp,rfl,_⟩:=id hu;refine LW.splitA (LW.splitB ?_)
   refine LW.nil (AW.b (AW.ts [7,8,9] 2 (TW.mv ?_)))
   refine TW.take rfl (Yl.extract rfl rfl) rfl ?_
   refine TW.take rfl (Yl.extract rfl rfl) rfl ?_
   refine TW.nil (AW.a 11 ?_)
   refine LW.sA (itemC (.slice A it.vec.length cp) it) szt36 (itemC_one rfl it) ?_
   refine LW.nil (AW.b (AW.ts [12] 0 (TW.as ?_)))
   refine TW.nil (AW.d ?_)
   refine NW.go uN 13 rfl ?_
   refine LW.front (p:=rest) .t (LW.front (p:=[cr q 93 (colC x ps px)]++(rs++rx)) .n3 (LW.unfoc hperm.symm ?_))
   refine LW.lA (itemC (.slice A it.vec.length cp) it) underlying36 szt36 ?_
   refine LW.bd [_] ((repC (.slice A it.vec.length cp) it (.slice none 0 0) 0).toArray) ?_
   refine LW.sA (repC (.slice A it.vec.length cp) it (.slice none 0 0) 0) szt41 (repC_one rfl _ rfl _) ?_
   refine LW.go uN 6 rfl ?_
   refine NW.res2 rfl (.cell (repC (.slice A it.vec.length cp) it (.slice none 0 0) 0) rfl .t zd underlying41 rfl szt41) (.tmp rfl) ⟨_,⟨_,ch,rfl,hu,rfl⟩,?_⟩
   exact .s3
 exact AWs.nil
theorem core_Ask15 (p:Nat)(c:CorP)(rows im:List Row)(vv:Value)(o:OpP)(x:ColP)(hc:CorR W B im p c rows)(hv:VecAt W B im vv o.vec)(hk:o.kind=15)(hf:findP c o.col=some x) :
  Spec prog W B 17 [ptr p,opV vv o] (rows++im) (fun r post=>r=.tuple #[repV (.slice none 0 0) ItemP.none (.slice none 0 0) (stoLen x.s:Int),.nilIface]/\post=rows++im):=by
 have hbx:=opV_cells hv o
 have hv1:=hv.one
 refine Spec.eG [rows,im] func17 ntmps17 fun w0=>?_
 refine CW.go uN 2 rfl (LW.bx ?_)
 intro bb3
 refine LW.alloc zero41 rfl ?_
 intro ba4
 refine LW.go uN 5 rfl ?_
 rw [hbx]
 refine CW.go uN 2 rfl (LW.pn underlying60 ?_)
 refine LW.go uN 9 rfl (LW.load (v:=.int .i64 15) rfl .t (by rw [<- hk];rfl) one3 rfl ?_)
 refine LW.eqlF ?_
 refine LW.go uN 9 rfl (LW.load (v:=.int .i64 15) rfl .t (by rw [<- hk];rfl) one3 rfl ?_)
 refine LW.neqT ?_
 refine LW.go uN 4 rfl (LW.load (v:=.int .i64 15) rfl .t (by rw [<- hk];rfl) one3 rfl ?_)
 refine LW.go uN 1 rfl (LW.neqT ?_)
 refine LW.go uN 5 rfl (LW.load (v:=.int .i64 15) rfl .t (by rw [<- hk];rfl) one3 rfl ?_)
 refine LW.go uN 1 rfl (LW.neqF ?_)
 refine LW.go uN 10 rfl (LW.ld one9 ?_)
 refine LW.cG (core_find W B p c rows im o.col x hc hf) cl34 ?_
 rintro _ _ ⟨⟨q,rc,rest,rfl,hcr,hperm⟩,hpost⟩;rw [hpost];clear hpost;obtain⟨ps,px,rs,rx,hst,hix,rfl,hxd,_⟩:=hcr
 refine LW.go uN 7 rfl (LW.pn underlying87 ?_)
 refine LW.go uN 9 rfl (LW.load (v:=.int .i64 15) rfl .t (by rw [<- hk];rfl) one3 rfl ?_)
 refine LW.go uN 5 rfl (LW.eqlF ?_)
 refine LW.go uN 6 rfl (LW.eqlF ?_)
 refine LW.go uN 9 rfl ?_
 refine LW.front (p:=rows) .t (LW.foc hperm.symm (LW.splitA (LW.splitB ?_)))
 refine LW.go uN 3 rfl (LW.ld one90 ?_)
 refine LW.eT (store_Len W B ps x.s rs im hst) cl37 .n2 ?_
 refine LW.splitA (LW.front (p:=rest) .t (LW.front (p:=[cr q 93 (colC x ps px)]++(rs++rx)) .n3 (LW.unfoc hperm.symm ?_)))
 refine LW.bd [_] ((repC (.slice none 0 0) ItemP.none (.slice none 0 0) (stoLen x.s:Int)).toArray) ?_
 refine LW.sA (repC (.slice none 0 0) ItemP.none (.slice none 0 0) (stoLen x.s:Int)) szt41 (repC_one rfl _ rfl _) ?_
 refine LW.go uN 4 rfl ?_
 refine NW.res2 rfl (.cell (repC (.slice none 0 0) ItemP.none (.slice none 0 0) (stoLen x.s:Int)) rfl .t zd underlying41 rfl szt41) (.tmp rfl) ⟨_,⟨rfl,rfl⟩,?_⟩
 exact .s2
end
end Go.Proofs.YtnlpccoigflheaaGreatDoor
