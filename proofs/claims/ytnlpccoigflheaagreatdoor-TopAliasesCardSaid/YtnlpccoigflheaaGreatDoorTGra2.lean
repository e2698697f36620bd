/- TGra2 -/
import Derived.Test.YtnlpccoigflheaaGreatDoorTGra1
import Derived.Test.YtnlpccoigflheaaGreatDoorFac
namespace Go.Proofs.YtnlpccoigflheaaGreatDoor
open Go.RowKit
open Go.Proofs.Tryz
def Tuy:Tbl:=⟨[(281,0,0),(284,1,1)],[],[37,85]⟩
theorem uy:Tuy.Ok Tryz.prog:=.of (⟨⟨_,Tryz.underlying37⟩,⟨_,Tryz.underlying85⟩,trivial⟩)
theorem mget_mset {κ:Type}[DecidableEq κ]{k:κ}{u:Value}(k':κ):∀ (l:List (κ×Value)),mget (mset l k u) k'=if k=k' then some u else mget l k'
 | []=>by simp [mset,mget]
 | (a,w)::r=>by
  simp only [mset]
  split
  . rename_i he;subst he;simp only [mget];split<;>rfl
  . rename_i he
    simp only [mget,mget_mset k' r]
    split
    . rename_i h1;rw [if_neg (fun h2=>he (h1.trans h2.symm))]
    . rfl
def BoolR (v:Value)(seen:List Int)(ch:List Row):Prop:=∃ es,OwnMap i64k v es ch/\∀ id,mget es id=if seen.contains id=true then some (.bool true) else none
theorem BoolR.nil {v:Value}{ch:List Row}(h:OwnMap i64k v [] ch):BoolR v [] ch:=⟨[],h,fun id=>rfl⟩
theorem bool_set {es:List (Int×Value)}{seen:List Int}(h:∀ id,mget es id=if seen.contains id=true then some (.bool true) else none)(x:Int):∀ id,mget (mset es x (.bool true)) id=if (x::seen).contains id=true then some (.bool true) else none:=fun id=>by
 rw [mget_mset,h id]
 by_cases he:x=id
 . subst he;simp
 . rw [if_neg he];simp [List.contains_cons,Ne.symm he]
theorem bool_look {es:List (Int×Value)}{seen:List Int}(h:∀ id,mget es id=if seen.contains id=true then some (.bool true) else none)(x:Int):(mget es x).getD (.bool false)=.bool (seen.contains x):=by
 rw [h x];cases seen.contains x<;>rfl
theorem putB_mem {k:Nat}{l:List (Int×Int)}{h x:Int×Int}(hx:x∈putB k l h):x=h\/x∈l:=by
 unfold putB at hx
 split at hx
 . exact .inr hx
 . split at hx
   . exact .inr hx
   . have hx:=List.mem_of_mem_take hx
     simp only [List.mem_append,List.mem_singleton] at hx
     rcases hx with (hx | hx) | hx
     . exact .inr (List.mem_of_mem_take hx)
     . exact .inl hx
     . exact .inr (List.mem_of_mem_drop hx)
theorem idxF_find {α:Type}(p:α->Bool):∀ (xs:List α) (i:Nat),(idxF p xs i=-1/\xs.find? p=none)\/∃ k x,idxF p xs i=((i+k:Nat):Int)/\xs[k]?=some x/\xs.find? p=some x/\p x=true
 | [],i=>.inl ⟨rfl,rfl⟩
 | x::r,i=>by
  by_cases hp:p x=true
  . exact .inr ⟨0,x,by simp [idxF,hp],rfl,by simp [hp],hp⟩
  . have h1:idxF p (x::r) i=idxF p r (i+1):=by simp [idxF,hp]
    have h2:(x::r).find? p=r.find? p:=by simp [hp]
    rw [h1,h2]
    rcases idxF_find p r (i+1) with h | ⟨k,y,a1,a2,a3,a4⟩
    . exact .inl h
    . exact .inr ⟨k+1,y,by rw [a1];congr 1;omega,by simpa using a2,a3,a4⟩
def cntU (g:GraP)(done:List Int):Nat:=((g.map (·.1)).filter fun k=>!done.contains k).length
theorem filt_lt {α:Type}(f g:α->Bool)(h:∀ y,g y=true->f y=true)(x:α)(hf:f x=true)(hg:g x=false):∀ (l:List α),x∈l->(l.filter g).length<(l.filter f).length
 | [],hx=>by cases hx
 | y::r,hx=>by
  have hle:∀ l:List α,(l.filter g).length<=(l.filter f).length:=fun l=>by
    induction l with
    | nil=>exact Nat.le_refl _
    | cons z t ih=>
      simp only [List.filter_cons]
      cases hgz:g z
      . cases hfz:f z
        . simpa using ih
        . simp;omega
      . rw [h z hgz];simpa using ih
  rcases List.mem_cons.1 hx with rfl | hx
  . have:=hle r
    simp only [List.filter_cons,hf,hg,if_true,List.length_cons]
    simp;omega
  . have ih:=filt_lt f g h x hf hg r hx
    simp only [List.filter_cons]
    cases hgz:g y
    . cases hfz:f y
      . simpa using ih
      . simp;omega
    . rw [h y hgz];simpa using ih
theorem cntU_lt {g:GraP}{done:List Int}{x:Int}{nd:NodeP}(ha:aget g x=some nd)(hx:done.contains x=false):cntU g (x::done)<cntU g done:=by
 unfold cntU
 refine filt_lt (fun k=>!done.contains k) (fun k=>!(x::done).contains k) (fun y hy=>?_) x (by rw [hx];rfl) (by simp) _ (List.mem_map.2 ⟨_,aget_mem ha,rfl⟩)
 simp only [List.contains_cons,Bool.not_or,Bool.and_eq_true] at hy
 exact hy.2
theorem cntU_le (g:GraP)(done:List Int):cntU g done<=g.length:=by
 unfold cntU
 exact Nat.le_trans (List.length_filter_le _ _) (by simp)
theorem lookGo_none (m:Int)(g:GraP)(q:List Int)(lv n f:Nat)(found:List (Int×Int))(seen done:List Int)(h:(found.map (·.1)).find? (fun id=>!done.contains id)=none):lookGo m g q lv n f found seen done=found.map (·.1):=by
 cases f with
 | zero=>rfl
 | succ f=>simp only [lookGo,h]
theorem lookGo_some (m:Int)(g:GraP)(q:List Int)(lv n f:Nat)(found:List (Int×Int))(seen done:List Int){x:Int}(h:(found.map (·.1)).find? (fun id=>!done.contains id)=some x) :
 lookGo m g q lv n (f+1) found seen done=lookGo m g q lv n f ((g.lnk x lv).foldl (seeP m g q n) (found,seen)).1 ((g.lnk x lv).foldl (seeP m g q n) (found,seen)).2 (x::done):=by simp only [lookGo,h]
section
variable (W:World)(B:Nat)
theorem gra_look1 (x:Int)(rows:List Row)(bd:Nat)(mvd:Value)(done:List Int)(cd:List Row)(hb:BoolR mvd done cd) :
  Spec prog W B 223 [.int .i64 x,ptr bd] (rows++([cr bd 173 [mvd]]++cd)) (fun r post=>r=.bool (!done.contains x)/\post=rows++([cr bd 173 [mvd]]++cd)):=by
 obtain⟨es,hom,hget⟩:=hb
 refine Spec.eG [rows,[cr bd 173 [mvd]],cd] func223 ntmps223 fun w0=>?_
 refine CW.go uy 7 rfl (LW.ld one173 ?_)
 refine LW.go uy 1 rfl (LW.mapLookG false ( (mget es x)) rfl rfl keyInt (hom) .t underlying173 underlying3 zero4 (rfl) rfl ?_)
 rw [show (if false=true then Value.tuple #[(mget es x).getD (.bool false),.bool (mget es x).isSome] else (mget es x).getD (.bool false))=.bool (done.contains x) from bool_look hget x]
 refine LW.go uy 5 rfl ?_
 refine NW.r1 ⟨_,⟨rfl,rfl⟩,?_⟩
 exact .s3
set_option maxHeartbeats 4000000 in
theorem gra_look (p:Nat)(m:Int)(g:GraP)(rows im src:List Row)(qv fv:Value)(q:List Int)(lv n:Nat)(frm:List Int)(hg:GraR W B im p m g rows)(hqv:VecAt W B im qv q)(hq:VOk q)(hlv:lv<=4)(hn:n<=1000)
   (hfv:SlAt W B src fv frm.length (frm.map i64k) 1) (hfl:frm.length<=1000) (hfr:∀ x∈frm,∃ nd,aget g x=some nd) :
   Spec prog W B 146 [ptr p,qv,iN lv,fv,iN n] (src++(rows++im)) (fun r post=>∃ ch,OwnS 3 1 r (lookP m g q lv frm n).length ((lookP m g q lv frm n).map i64k) ch/\(∀ x∈lookP m g q lv frm n,∃ nd,aget g x=some nd)/\(lookP m g q lv frm n).length<=n/\post=ch++(src++(rows++im))):=by
 have hgr:=hg
 obtain⟨mv,chm,es,cs,hom,hns,hrows,hok⟩:=hg
 obtain⟨Af,cpf,rfl,hcpf,hlf,hsf,hAf⟩:=hfv
 refine Spec.eG [src,rows,im] func146 ntmps146 fun w0=>?_
 refine CW.go uy 8 rfl (LW.cT (best_New W B n (by omega)) cl212 ((Take.none _)) ?_)
 rintro _ cb0 ⟨bp,rfl,hbr0⟩
 refine LW.mapMakeG i64k rfl ?_
 intro mvs cs0 homs0
 refine LW.mapMakeG i64k rfl ?_
 intro mvd cd0 homd0
 refine LW.alloc zero173 rfl ?_
 intro ba13
 refine LW.go uy 2 rfl (LW.store rfl rfl .t (by first | decide | exact Nat.lt_of_sub_pos (by rfl) | (simp;done) | simp [devHead]) sz173 (homd0.one) ?_)
 refine LW.go uy 11 rfl ?_
 refine CW.loopG (fun st:Nat×List (Int×Int)×List Int×List Row×List Row=>[(26,iN st.1),(25,iN frm.length),(24,.slice Af frm.length cpf),(11,ptr bp),(12,mvs),(13,ptr ba13),(0,ptr p),(1,qv),(2,iN lv)]) (fun st=>[st.2.2.2.1,st.2.2.2.2,cd0,[cr ba13 173 [mvd]],rows,im,src]) (fun st=>st.1<=frm.length/\BestR bp n st.2.1 st.2.2.2.1/\BoolR mvs st.2.2.1 st.2.2.2.2/\(frm.drop st.1).foldl (fun st id=>(putB n st.1 (g.hit m q id),id::st.2)) (st.2.1,st.2.2.1)=lookSt m g q n frm/\∀ h∈st.2.1,∃ nd,aget g h.1=some nd) (fun st=>frm.length-st.1) (0,[],[],cb0,cs0) (by exact⟨Nat.zero_le _,hbr0,BoolR.nil homs0,rfl,fun h hh=>(by cases hh)⟩) rfl (by repeat' constructor) ?_
 rintro⟨i,found,seen,cb,cs1⟩ ⟨hi,hbr,⟨ess,homs,hgs⟩,hx,hmem⟩;dsimp only at hi hbr homs hgs hx hmem |-
 refine CW.go uy 2 rfl (LW.lss (decide ((i:Int)<(frm.length:Int))) rfl rfl (rfl) rfl ?_)
 refine LW.go uy 3 rfl ?_
 refine CW.cond rfl (fun hc27=>?_) (fun hc27=>?_)
 . have hin:i<frm.length:=oT hc27
   obtain⟨a,rfl⟩:∃ x,Af=some x:=smA hAf
   obtain⟨x,hxi,hxd⟩:=drop_at hin
   rw [hxd,List.foldl_cons] at hx
   obtain⟨nd,hnd⟩:=hfr x (List.mem_of_getElem? hxi)
   refine CW.go uy 6 rfl (LW.indexAt rfl rfl underlying85 ixs85 (by omega) (by omega) rfl ?_)
   refine LW.loadRd (v:=.int .i64 x) rfl (hsf.rd .t) (i64k_at hxi) one3 rfl ?_
   refine LW.go uy 7 rfl (LW.mapSetG rfl rfl rfl keyInt (homs) .t underlying173 underlying3 ?_)
   intro cs2 homs2
   refine LW.go uy 7 rfl (LW.eT (gra_hit W B p m g rows im qv q x nd hgr hqv hq hnd) cl147 .n2 ?_)
   refine LW.splitA ?_
   refine LW.cG (best_Put W B bp n found (g.hit m q x) cb hbr) cl213 ?_
   rintro _ cb2 ⟨⟨b,rfl⟩,hbr2⟩
   refine LW.go uy 4 rfl (LW.ad ((i+1:Int)) ?_)
   exact LW.go uy 2 rfl (NW.mG ((i+1,putB n found (g.hit m q x),x::seen,cb2,cs2)) (by exact⟨⟨by omega,hbr2,⟨_,homs2,bool_set hgs x⟩,hx,fun h hh=>by rcases putB_mem hh with rfl | hh;exact⟨nd,hnd⟩;exact hmem h hh⟩,by dsimp only;omega⟩))
 . have hin:i=frm.length:=oF hc27
   rw [hin,List.drop_length,List.foldl_nil] at hx
   refine CW.go uy 2 rfl (NW.then_exit (NW.go uy 3 rfl ?_))
   refine CW.loopG (fun st:Nat×List (Int×Int)×List Int×List Int×List Row×List Row×List Row=>[(11,ptr bp),(12,mvs),(13,ptr ba13),(0,ptr p),(1,qv),(2,iN lv)]) (fun st=>[st.2.2.2.2.1,st.2.2.2.2.2.1,st.2.2.2.2.2.2,[cr ba13 173 [mvd]],rows,im,src]) (fun st=>BestR bp n st.2.1 st.2.2.2.2.1/\BoolR mvs st.2.2.1 st.2.2.2.2.2.1/\BoolR mvd st.2.2.2.1 st.2.2.2.2.2.2/\lookGo m g q lv n st.1 st.2.1 st.2.2.1 st.2.2.2.1=lookP m g q lv frm n/\cntU g st.2.2.2.1<st.1/\∀ h∈st.2.1,∃ nd,aget g h.1=some nd) (fun st=>st.1) (g.length+1,found,seen,[],cb,cs1,cd0) (by exact⟨hbr,⟨ess,homs,hgs⟩,BoolR.nil homd0,by unfold lookP;rw [<- hx],Nat.lt_succ_of_le (cntU_le g []),hmem⟩) rfl (by repeat' constructor) ?_
   rintro⟨f,fo,se,dn,cb3,cs3,cd3⟩ ⟨hbr3,⟨ess3,homs3,hgs3⟩,hbd3,hgo,hcnt,hmem3⟩;dsimp only at hbr3 homs3 hgs3 hbd3 hgo hcnt hmem3 |-
   refine CW.go uy 2 rfl ?_
   have hfl3:fo.length<=n:=by obtain⟨_,_,_,_,h9,_⟩:=hbr3;exact h9
   have hbd3':=hbd3
   obtain⟨esd,homd,hgd⟩:=hbd3'
   refine CW.go uy 2 rfl (LW.cG (best_All W B bp n fo cb3 hbr3) cl214 ?_)
   rintro r40 _ ⟨c40,ho40,rfl⟩;refine LW.splitA ?_
   refine LW.cG (gra_ids W B c40 r40 fo (ho40.sl) (by omega)) cl221 ?_
   rintro r41 _ ⟨c41,ho41,rfl⟩;obtain⟨A41,cp41,rfl,hA41,hcp41⟩:=ho41.val;refine LW.splitA ?_
   refine LW.go uy 6 rfl (LW.makeFn (vs:=[]) (us:=[ptr ba13]) trivial ⟨rfl,trivial⟩ rfl ?_)
   refine LW.eT (ixf_222 W B (c41++([cr ba13 173 [mvd]]++cd3)) (.slice A41 fo.length cp41) (fo.map (·.1)) i64k (fun y=>!dn.contains y) 223 [ptr ba13] cl223 (by rw [List.length_map];exact ho41.sl.more fun y hy=>List.mem_append_left _ hy) (by rw [List.length_map];omega) (fun y _=>gra_look1 W B y c41 ba13 mvd dn cd3 hbd3)) cl222 .n3 ?_
   refine LW.splitA (LW.splitB ?_)
   refine LW.go uy 7 rfl ?_
   rcases idxF_find (fun y=>!dn.contains y) (fo.map (·.1)) 0 with ⟨hix,hfd⟩ | ⟨k0,x,hix,hxk,hfd,hpx⟩
   . rw [hix]
     refine LW.lss true rfl rfl (rfl) rfl ?_
     refine LW.go uy 12 rfl (NW.then_ret ?_)
     refine NW.go uy 1 rfl ?_
     refine NW.ret1 rfl rfl ⟨_,⟨c41,by rw [<- hgo,lookGo_none m g q lv n f fo se dn hfd,List.length_map];exact ho41,by rw [<- hgo,lookGo_none m g q lv n f fo se dn hfd];intro y hy;obtain⟨h,hh,rfl⟩:=List.mem_map.1 hy;exact hmem3 h hh,by rw [<- hgo,lookGo_none m g q lv n f fo se dn hfd,List.length_map];exact hfl3,rfl⟩,?_⟩
     exact .s4
   . rw [hix]
     rw [Nat.zero_add]
     have hxk2:k0<fo.length:=by have:=(List.getElem?_eq_some_iff.1 hxk).1;rwa [List.length_map] at this
     have hdx:dn.contains x=false:=by simpa using hpx
     obtain⟨nd,hnd⟩:∃ nd,aget g x=some nd:=by
       obtain⟨y,hy,hyx⟩:=List.mem_map.1 (List.mem_of_getElem? hxk)
       rw [<- hyx];exact hmem3 y hy
     obtain⟨f,rfl⟩:∃ f',f=f'+1:=⟨f-1,by omega⟩
     rw [lookGo_some m g q lv n f fo se dn hfd] at hgo
     have hcu:=cntU_lt hnd hdx
     obtain⟨l,hll,hlk,hst,hl1000,hlm⟩:=hok.lnk hnd hlv
     rw [hlk] at hgo
     obtain⟨i0,b,c,hmg,hci,⟨vv,vs,lcs,hvv,hln,h5,rfl⟩,_⟩:=hns.get hnd
     obtain⟨ov,oc,hov,hoc,hown,_⟩:=hln.get hll
     obtain⟨Al,cl,rfl,hAl,hcl⟩:=hown.val
     have hsl:Src W B rows Al (l.map i64k):=(hown.src (W:=W) (B:=B)).more' fun y hy=>by rw [hrows];exact List.mem_append_right _ (List.mem_append_right _ ((flat_get hci).mem_iff.1 (List.mem_append_left _ (List.mem_append_right _ ((flat_get hoc).mem_iff.1 (List.mem_append_left _ hy))))))
     rcases ho41 with ⟨_,h0,_,_⟩ | ⟨bi,capi,slacki,hvi,hli,hcapi,hsi,rfl⟩
     . exact absurd h0 (by omega)
     injection hvi with e1 e2 e3
     subst e1 e3
     refine LW.lssF ?_
     refine LW.go uy 6 rfl (CW.drawH [cr bi 3 ((fo.map (·.1)).map i64k++slacki),cr ba13 173 [mvd]] mixed ?_)
     refine AW.ts [0,1,2,3,4] 1 (TW.ld one173 ?_)
     refine TW.mv ?_
     refine TW.mv ?_
     refine TW.take rfl (Yl.indexAddr (k0) rfl rfl underlying85 ixs85 (by omega) (by omega) (by simp)) rfl ?_
     refine TW.take rfl (Yl.load (v:=.int .i64 x) rfl (by repeat (first | exact List.Mem.head _ | refine List.Mem.tail _ ?_)) (by rw [List.getElem?_append_left (by simp;omega),List.getElem?_map,hxk];rfl) one3) rfl ?_
     refine TW.nil (AW.a 5 ?_)
     refine LW.mapSetG rfl rfl rfl keyInt (homd) .t underlying173 underlying3 ?_
     intro cd4 homd4
     refine LW.nil (AW.b (AW.d ?_))
     refine NW.go uy 2 rfl ?_
     subst hrows;refine CW.front (p:=[cr p 284 [.int .i64 m,mv]]++(chm++cs.flatten)) .t (CW.gopen (flat_get hci) ?_)
     refine CW.drawH [cr p 284 [.int .i64 m,mv],cr bi 3 ((fo.map (·.1)).map i64k++slacki),cr b 281 (vv::iN nd.lv::vs)] mixed ?_
     refine AW.ts [0,1,2,3,4,5,6,7,9,15] 6 (TW.mv ?_)
     refine TW.np ?_
     refine TW.fa fa284_1 ?_
     refine TW.ld one282 ?_
     refine TW.mv ?_
     refine TW.mv ?_
     refine TW.take rfl (Yl.indexAddr (k0) rfl rfl underlying85 ixs85 (by omega) (by omega) (by simp)) rfl ?_
     refine TW.take rfl (Yl.load (v:=.int .i64 x) rfl (by repeat (first | exact List.Mem.head _ | refine List.Mem.tail _ ?_)) (by rw [List.getElem?_append_left (by simp;omega),List.getElem?_map,hxk];rfl) one3) rfl ?_
     refine TW.mv ?_
     refine TW.mv ?_
     refine TW.nil (AW.a 8 ?_)
     refine LW.mapHit1 (u:=_) rfl rfl keyInt (hom) .t underlying282 underlying3 zero277 (hmg) rfl ?_
     refine LW.nil (AW.b (AW.ts [10,11,12,13,14] 0 (TW.np ?_)))
     refine TW.fa fa281_2 ?_
     refine TW.take rfl (Yl.indexAddrA (lv+1+1) rfl rfl underlying279 ixs279 (by omega) (by omega) (by simp;omega)) rfl ?_
     refine TW.take rfl (Yl.load (v:=.slice Al l.length cl) rfl (by repeat (first | exact List.Mem.head _ | refine List.Mem.tail _ ?_)) (by rw [List.getElem?_cons_succ,List.getElem?_cons_succ];exact hov) one85) rfl ?_
     refine TW.take rfl (Yl.lenSlice rfl underlying85) rfl ?_
     refine TW.nil (AW.d ?_)
     refine NW.gclose (rp:=cr p 284 [.int .i64 m,mv]) (chm:=chm) .t .t .t .t .t (flat_get hci) ?_
     refine NW.go uy 2 rfl ?_
     refine CW.loopG (fun st:Nat×List (Int×Int)×List Int×List Row×List Row=>[(68,iN st.1),(67,iN l.length),(66,.slice Al l.length cl),(11,ptr bp),(12,mvs),(13,ptr ba13),(0,ptr p),(1,qv),(2,iN lv)]) (fun st=>[st.2.2.2.1,st.2.2.2.2,cd4,[cr ba13 173 [mvd]],[cr p 284 [.int .i64 m,mv]]++(chm++cs.flatten),im,src]) (fun st=>st.1<=l.length/\BestR bp n st.2.1 st.2.2.2.1/\BoolR mvs st.2.2.1 st.2.2.2.2/\(l.drop st.1).foldl (seeP m g q n) (st.2.1,st.2.2.1)=l.foldl (seeP m g q n) (fo,se)/\∀ h∈st.2.1,∃ nd,aget g h.1=some nd) (fun st=>l.length-st.1) (0,fo,se,cb3,cs3) (by exact⟨Nat.zero_le _,hbr3,⟨ess3,homs3,hgs3⟩,rfl,hmem3⟩) rfl (by repeat' constructor) ?_
     rintro⟨j,f5,s5,cb5,cs5⟩ ⟨hj,hbr5,⟨ess5,homs5,hgs5⟩,hx5,hmem5⟩;dsimp only at hj hbr5 homs5 hgs5 hx5 hmem5 |-
     refine CW.go uy 2 rfl (LW.lss (decide ((j:Int)<(l.length:Int))) rfl rfl (rfl) rfl ?_)
     refine LW.go uy 3 rfl ?_
     refine CW.cond rfl (fun hc69=>?_) (fun hc69=>?_)
     . have hjn:j<l.length:=oT hc69
       obtain⟨al,rfl⟩:∃ x,Al=some x:=smA hAl
       obtain⟨y,hyj,hyd⟩:=drop_at hjn
       rw [hyd,List.foldl_cons] at hx5
       obtain⟨ndy,hndy⟩:=hlm y (List.mem_of_getElem? hyj)
       refine CW.go uy 6 rfl (LW.indexAt rfl rfl underlying85 ixs85 (by omega) (by omega) rfl ?_)
       refine LW.loadRd (v:=.int .i64 y) rfl (hsl.rd .t) (i64k_at hyj) one3 rfl ?_
       refine LW.go uy 7 rfl (LW.mapLookG false ( (mget ess5 y)) rfl rfl keyInt (homs5) .t underlying173 underlying3 zero4 (rfl) rfl ?_)
       rw [show (if false=true then Value.tuple #[(mget ess5 y).getD (.bool false),.bool (mget ess5 y).isSome] else (mget ess5 y).getD (.bool false))=.bool (s5.contains y) from bool_look hgs5 y]
       refine LW.go uy 3 rfl ?_
       refine CW.cond rfl (fun hc75=>?_) (fun hc75=>?_)
       . have hsy:s5.contains y=false:=by simpa using hc75
         have hsee:seeP m g q n (f5,s5) y=(putB n f5 (g.hit m q y),y::s5):=by unfold seeP;rw [if_neg (by rw [hsy];decide)]
         rw [hsee] at hx5
         refine CW.go uy 4 rfl (LW.mapSetG rfl rfl rfl keyInt (homs5) .t underlying173 underlying3 ?_)
         intro cs6 homs6
         refine LW.go uy 7 rfl (LW.eT (gra_hit W B p m g ([cr p 284 [.int .i64 m,mv]]++(chm++cs.flatten)) im qv q y ndy hgr hqv hq hndy) cl147 .n2 ?_)
         refine LW.splitA ?_
         refine LW.cG (best_Put W B bp n f5 (g.hit m q y) cb5 hbr5) cl213 ?_
         rintro _ cb6 ⟨⟨b',rfl⟩,hbr6⟩
         refine LW.go uy 4 rfl (LW.ad ((j+1:Int)) ?_)
         exact LW.go uy 2 rfl (NW.mG ((j+1,putB n f5 (g.hit m q y),y::s5,cb6,cs6)) (by exact⟨⟨by omega,hbr6,⟨_,homs6,bool_set hgs5 y⟩,hx5,fun h hh=>by rcases putB_mem hh with rfl | hh;exact⟨ndy,hndy⟩;exact hmem5 h hh⟩,by dsimp only;omega⟩))
       . have hsy:s5.contains y=true:=by simpa using hc75
         have hsee:seeP m g q n (f5,s5) y=(f5,s5):=by unfold seeP;rw [if_pos hsy]
         rw [hsee] at hx5
         refine CW.go uy 4 rfl (LW.ad ((j+1:Int)) ?_)
         exact LW.go uy 2 rfl (NW.mG ((j+1,f5,s5,cb5,cs5)) (by exact⟨⟨by omega,hbr5,⟨ess5,homs5,hgs5⟩,hx5,hmem5⟩,by dsimp only;omega⟩))
     . have hjn:j=l.length:=oF hc69
       rw [hjn,List.drop_length,List.foldl_nil] at hx5
       rw [<- hx5] at hgo
       exact CW.go uy 2 rfl (NW.then_exit (NW.go uy 2 rfl (NW.mG ((f,f5,s5,x::dn,cb5,cs5,cd4)) (by exact⟨⟨hbr5,⟨ess5,homs5,hgs5⟩,⟨_,homd4,bool_set hgd x⟩,hgo,by dsimp only;omega,hmem5⟩,by dsimp only;omega⟩))))
theorem hits_snoc (m:Int)(g:GraP)(q:List Int){l:List Int}{i:Nat}{x:Int}(h:l[i]?=some x):(l.take (i+1)).map (g.hit m q)=(l.take i).map (g.hit m q)++[g.hit m q x]:=by rw [List.take_add_one,h,List.map_append];rfl
theorem gra_ranked (p:Nat)(m:Int)(g:GraP)(rows im src:List Row)(id:Int)(nd:NodeP)(v:Value)(l:List Int)(hg:GraR W B im p m g rows)(ha:aget g id=some nd)(hv:SlAt W B (src++rows) v l.length (l.map i64k) 1)(hl:l.length<=1000)(hm:∀ x∈l,∃ nd,aget g x=some nd) :
   Spec prog W B 236 [ptr p,.int .i64 id,v] (src++(rows++im)) (fun r post=>∃ ch,OwnS 3 1 r (rankedP m g id l).length ((rankedP m g id l).map i64k) ch/\post=ch++(src++(rows++im))):=by
 have hgr:=hg
 obtain⟨mv,chm,es,cs,hom,hns,hrows,hok⟩:=hg
 obtain⟨A,cp,rfl,hcp,hll,hsrc,hA⟩:=hv
 obtain⟨i0,b,c,hmg,hci,⟨vv,vs,lcs,hvv,hln,h5,rfl⟩,_⟩:=hns.get ha
 have hvo:=(hok.at ha).2.1
 have hvec:g.vec id=nd.v:=by unfold GraP.vec;rw [ha]
 have hrk:rankedP m g id l=(bestOf l.length (l.map (g.hit m nd.v))).map (·.1):=by unfold rankedP;rw [hvec]
 rw [hrk]
 have hbl:=bestOf_len l.length (l.map (g.hit m nd.v))
 refine Spec.eG [src++rows,im] func236 ntmps236 fun w0=>?_
 refine CW.go uy 19 rfl ?_
 refine CW.loopG (fun st:Nat×Value×List Row=>[(12,iN st.1),(11,iN l.length),(10,.slice A l.length cp),(7,st.2.1),(0,ptr p),(1,.int .i64 id)]) (fun st=>[st.2.2,src++rows,im]) (fun st=>st.1<=l.length/\OwnS 72 2 st.2.1 st.1 (hitsC ((l.take st.1).map (g.hit m nd.v))) st.2.2) (fun st=>l.length-st.1) (0,.slice none 0 0,[]) (by exact⟨Nat.zero_le _,OwnS.nil⟩) rfl (by repeat' constructor) ?_
 rintro⟨i,v,ch⟩ ⟨hi,ho⟩;dsimp only at hi ho |-
 refine CW.go uy 2 rfl (LW.lss (decide ((i:Int)<(l.length:Int))) rfl rfl (rfl) rfl ?_)
 refine LW.go uy 3 rfl ?_
 refine CW.cond rfl (fun hc13=>?_) (fun hc13=>?_)
 . have hin:i<l.length:=oT hc13
   obtain⟨a,rfl⟩:∃ x,A=some x:=smA hA
   obtain⟨x,hxi,hxd⟩:=drop_at hin
   obtain⟨ndx,hndx⟩:=hm x (List.mem_of_getElem? hxi)
   refine CW.go uy 6 rfl (LW.indexAt rfl rfl underlying85 ixs85 (by omega) (by omega) rfl ?_)
   refine LW.loadRd (v:=.int .i64 x) rfl (hsrc.rd .t) (i64k_at hxi) one3 rfl ?_
   refine LW.go uy 3 rfl ?_
   subst hrows;refine CW.front (p:=src++([cr p 284 [.int .i64 m,mv]]++(chm++cs.flatten))) .t (CW.splitA (CW.front (p:=[cr p 284 [.int .i64 m,mv]]++(chm++cs.flatten)) .t (CW.gopen (flat_get hci) ?_)))
   refine CW.go uy 6 rfl (LW.ld one282 ?_)
   refine LW.go uy 1 rfl (LW.mapHit1 (u:=_) rfl rfl keyInt (hom) .t underlying282 underlying3 zero277 (hmg) rfl ?_)
   refine LW.go uy 2 rfl (LW.ld one25 ?_)
   refine LW.go uy 1 rfl (LW.gclose (rp:=cr p 284 [.int .i64 m,mv]) (chm:=chm) .t .t .t .t .t (flat_get hci) ?_)
   refine LW.eT (gra_hit W B p m g ([cr p 284 [.int .i64 m,mv]]++(chm++cs.flatten)) im vv nd.v x ndx hgr hvv hvo hndx) cl147 .n2 ?_
   refine LW.splitA ?_
   refine LW.buildSliceA [hitC (g.hit m nd.v x)] ⟨rfl,trivial⟩ rfl (by intro v hv;simp at hv;subst hv;rfl) (by decide) underlying37 info72 rfl (by decide) (by decide) rfl ?_
   intro bs29
   refine LW.append (hitC (g.hit m nd.v x)) rfl rfl underlying37 underlying37 (.inr ⟨_,rfl⟩) info72 rfl (ho) .t (fun _=>by obtain⟨A7,cp7,he7,_⟩:=ho.val;exact lenOf_slice _ _ _ _) (first_rd (RdAt.row .t (fun j v hj=>by simpa using hj)) rfl (fun h=>by cases h)) (rfl) (hitC_one _) (by omega) (by omega) rfl ?_
   intro v' ch' ho'
   refine LW.go uy 4 rfl ?_
   refine CW.front (p:=[cr p 284 [.int .i64 m,mv]]++(chm++cs.flatten)) .t (CW.front (p:=src) .t (CW.unfoc (a:=src++([cr p 284 [.int .i64 m,mv]]++(chm++cs.flatten))) (List.Perm.refl _) ?_))
   refine CW.go uy 1 rfl (LW.ad ((i+1:Int)) ?_)
   exact LW.go uy 2 rfl (NW.mG ((i+1,v',ch')) (by exact⟨⟨by omega,by dsimp only;rw [hits_snoc m g nd.v hxi,hitsC_app];exact ho'⟩,by dsimp only;omega⟩))
 . have hin:i=l.length:=oF hc13
   rw [hin,List.take_length] at ho
   refine CW.go uy 2 rfl (NW.then_exit (NW.go uy 3 rfl ?_))
   obtain⟨Ah,cph,hvh,_,_⟩:=ho.val
   subst hvh
   refine CW.go uy 3 rfl ?_
   rw [hin]
   refine LW.go uy 1 rfl (LW.cG (best_Of W B l.length (l.map (g.hit m nd.v)) _ ch (by rw [List.length_map];exact ho.sl) (by rw [List.length_map];omega) (by omega)) cl141 ?_)
   rintro r35 _ ⟨c35,ho35,rfl⟩;refine LW.splitA ?_
   refine LW.cG (gra_ids W B c35 r35 _ (ho35.sl) (by omega)) cl221 ?_
   rintro r36 _ ⟨c36,ho36,rfl⟩;refine LW.splitA ?_
   refine LW.go uy 4 rfl ?_
   refine NW.ret1 rfl rfl ⟨_,⟨c36,by rw [List.length_map];exact ho36,rfl⟩,?_⟩
   rw [<- List.append_assoc src];exact .s3
end
end Go.Proofs.YtnlpccoigflheaaGreatDoor
