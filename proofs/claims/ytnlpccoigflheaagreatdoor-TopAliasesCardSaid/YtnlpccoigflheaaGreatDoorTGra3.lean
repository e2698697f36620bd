/- TGra3 -/
import Derived.Test.YtnlpccoigflheaaGreatDoorTGra2
import Derived.Test.YtnlpccoigflheaaGreatDoorFac
namespace Go.Proofs.YtnlpccoigflheaaGreatDoor
open Go.RowKit
open Go.Proofs.Tryz
def Tuz:Tbl:=⟨[(281,2,2),(284,1,1)],[],[85,349]⟩
theorem uz:Tuz.Ok Tryz.prog:=.of (⟨⟨_,Tryz.underlying85⟩,⟨_,Tryz.underlying349⟩,trivial⟩)
theorem aset_same {κ α:Type}[DecidableEq κ]{k:κ}{x:α}:∀ {l:List (κ×α)},aget l k=some x->aset l k x=l
 | [],h=>by cases h
 | (a,w)::r,h=>by
  simp only [aget] at h
  simp only [aset]
  split
  . rename_i he;rw [if_pos he] at h;cases h;rfl
  . rename_i he;rw [if_neg he] at h;rw [aset_same h]
theorem set_same {α:Type}{l:List α}{i:Nat}{x:α}(h:l[i]?=some x):l.set i x=l:=by
 apply List.ext_getElem?
 intro j
 rw [List.getElem?_set]
 split
 . rename_i he;subst he;rw [if_pos (List.getElem?_eq_some_iff.1 h).1,h]
 . rfl
theorem setLn_some {g:GraP}{id:Int}{nd:NodeP}(h:aget g id=some nd)(lv:Nat)(l:List Int):setLn g id lv l=aset g id { nd with ln:=nd.ln.set lv l }:=by unfold setLn;rw [h]
theorem setLn_same {g:GraP}{id:Int}{nd:NodeP}(h:aget g id=some nd){lv:Nat}{l:List Int}(hl:nd.ln[lv]?=some l):setLn g id lv l=g:=by
 rw [setLn_some h,set_same hl]
 exact aset_same h
theorem setLn_get {g:GraP}{id:Int}{lv:Nat}{l:List Int}{y:Int}:(∃ nd,aget (setLn g id lv l) y=some nd)↔∃ nd,aget g y=some nd:=by
 unfold setLn
 cases ha:aget g id with
 | none=>exact Iff.rfl
 | some nd=>
  simp only [aget_aset]
  by_cases he:id=y
  . subst he
    simp [ha]
  . simp [he]
theorem GraOk.setLn {g:GraP}(h:GraOk g){id:Int}{nd:NodeP}(ha:aget g id=some nd){lv:Nat}{l:List Int}(hs:Strict l)(hm:∀ y∈l,∃ nd,aget g y=some nd):GraOk (setLn g id lv l):=by
 have hg:=@setLn_get g id lv l
 have e:=setLn_some ha lv l
 have hmem:∀ x∈Go.Proofs.YtnlpccoigflheaaGreatDoor.setLn g id lv l,x=(id,{ nd with ln:=nd.ln.set lv l })\/x∈g:=fun x hx=>by rw [e] at hx;exact aset_keys_mem hx
 have hid:=aget_mem ha
 refine⟨by rw [e];exact aset_nodup h.nd,fun x hx=>?_,fun x hx=>?_,fun x hx=>?_,fun x hx=>?_⟩
 . rcases hmem x hx with rfl | hx
   . exact h.ids (id,nd) hid
   . exact h.ids _ hx
 . rcases hmem x hx with rfl | hx
   . have:=h.vok _ hid;exact⟨this.1,this.2.1,by simp;exact this.2.2⟩
   . exact h.vok _ hx
 . rcases hmem x hx with rfl | hx
   . intro l' hl'
     rcases List.mem_or_eq_of_mem_set hl' with h1 | rfl
     . exact h.srt _ hid l' h1
     . exact hs
   . exact h.srt _ hx
 . rcases hmem x hx with rfl | hx
   . intro l' hl' y hy
     rcases List.mem_or_eq_of_mem_set hl' with h1 | rfl
     . exact hg.2 (h.mem _ hid l' h1 y hy)
     . exact hg.2 (hm y hy)
   . intro l' hl' y hy
     exact hg.2 (h.mem _ hx l' hl' y hy)
theorem GraOk.link1 {g:GraP}(h:GraOk g){a b:Int}{nd:NodeP}(ha:aget g a=some nd)(hb:∃ nd,aget g b=some nd){lv:Nat}(hlv:lv<=4):GraOk (link1 lv g a b):=by
 obtain⟨l,hl,hk,hs,_,hm⟩:=h.lnk ha hlv
 unfold Go.Proofs.YtnlpccoigflheaaGreatDoor.link1
 rw [hk]
 refine h.setLn ha (insU_strict hs) fun y hy=>?_
 rcases insU_mem.1 hy with rfl | hy
 . exact hb
 . exact hm y hy
theorem GraOk.part1 {g:GraP}(h:GraOk g){a b:Int}{nd:NodeP}(ha:aget g a=some nd){lv:Nat}(hlv:lv<=4):GraOk (part1 lv g a b):=by
 obtain⟨l,hl,hk,hs,_,hm⟩:=h.lnk ha hlv
 unfold Go.Proofs.YtnlpccoigflheaaGreatDoor.part1
 rw [hk]
 exact h.setLn ha (erase_strict hs) fun y hy=>hm y (List.mem_of_mem_erase hy)
theorem link1_get {g:GraP}{a b:Int}{lv:Nat}{y:Int}:(∃ nd,aget (link1 lv g a b) y=some nd)↔∃ nd,aget g y=some nd:=setLn_get
theorem part1_get {g:GraP}{a b:Int}{lv:Nat}{y:Int}:(∃ nd,aget (part1 lv g a b) y=some nd)↔∃ nd,aget g y=some nd:=setLn_get
theorem pair_cells {a b:Int}{i:Nat}(hi:i<2):∃ x0 x1:Int,(∀ j v,[Value.int .i64 x0,.int .i64 x1][j]?=some v->([[Value.int .i64 a,.int .i64 b],[.int .i64 b,.int .i64 a]].flatten)[i*2+j]?=some v)/\((i=0/\x0=a/\x1=b)\/(i=1/\x0=b/\x1=a)):=by
 match i,hi with
 | 0,_=>exact⟨a,b,(fun j v h=>by match j,h with | 0,h=>exact h | 1,h=>exact h | j+2,h=>cases h),.inl ⟨rfl,rfl,rfl⟩⟩
 | 1,_=>exact⟨b,a,(fun j v h=>by match j,h with | 0,h=>exact h | 1,h=>exact h | j+2,h=>cases h),.inr ⟨rfl,rfl,rfl⟩⟩
section
variable (W:World)(B:Nat)
set_option maxHeartbeats 4000000 in
theorem gra_link (p:Nat)(m:Int)(g:GraP)(rows im:List Row)(a b:Int)(lv:Nat)(hg:GraR W B im p m g rows)(ha:∃ nd,aget g a=some nd)(hb:∃ nd,aget g b=some nd)(hlv:lv<=4) :
   Spec prog W B 168 [ptr p,.int .i64 a,.int .i64 b,iN lv] rows (fun r post=>r=.tuple #[]/\GraR W B im p m (linkP g a b lv) post):=by
 refine Spec.eG [rows] func168 ntmps168 fun w0=>?_
 refine CW.go uz 4 rfl (LW.bd [_,_] (#[.int .i64 a,.int .i64 b]) ?_)
 refine LW.go uz 2 rfl (LW.bd [_,_] (#[.int .i64 b,.int .i64 a]) ?_)
 refine LW.buildSliceA [[.int .i64 a,.int .i64 b],[.int .i64 b,.int .i64 a]] ⟨rfl,rfl,trivial⟩ rfl (by intro v hv;simp at hv;rcases hv with rfl | rfl<;>rfl) (by decide) underlying349 info348 rfl (by decide) (by decide) rfl ?_
 intro bs19
 refine LW.go uz 5 rfl ?_
 refine CW.loopG (fun st:Nat×GraP×List Row=>[(21,iN st.1),(20,.int .i64 2),(19,.slice (sA bs19) 2 2),(0,ptr p),(3,iN lv)]) (fun st=>[st.2.2,[cr bs19 348 ([[Value.int .i64 a,.int .i64 b],[.int .i64 b,.int .i64 a]].flatten)]]) (fun st=>st.1<=2/\GraR W B im p m st.2.1 st.2.2/\(∃ nd,aget st.2.1 a=some nd)/\(∃ nd,aget st.2.1 b=some nd)/\(st.1=0->st.2.1=g)/\(st.1=1->st.2.1=link1 lv g a b)/\(st.1=2->st.2.1=linkP g a b lv)) (fun st=>2-st.1) (0,g,rows) (by exact⟨Nat.zero_le _,hg,ha,hb,fun _=>rfl,fun h=>(by cases h),fun h=>(by cases h)⟩) rfl (by repeat' constructor) ?_
 rintro⟨i,g2,rows2⟩ ⟨hi,hgr2,ha2,hb2,h0,h1,h2⟩;dsimp only at hi hgr2 ha2 hb2 h0 h1 h2 |-
 refine CW.go uz 2 rfl (LW.lss (decide ((i:Int)<2)) rfl rfl (rfl) rfl ?_)
 refine LW.go uz 3 rfl ?_
 refine CW.cond rfl (fun hc22=>?_) (fun hc22=>?_)
 . have hin:i<2:=oT hc22
   obtain⟨x0,x1,hpc,hxs⟩:=pair_cells (a:=a) (b:=b) hin
   obtain⟨nd,hnd⟩:∃ nd,aget g2 x0=some nd:=by rcases hxs with ⟨_,rfl,rfl⟩ | ⟨_,rfl,rfl⟩;exact ha2;exact hb2
   have hx1:∃ nd,aget g2 x1=some nd:=by rcases hxs with ⟨_,rfl,rfl⟩ | ⟨_,rfl,rfl⟩;exact hb2;exact ha2
   obtain⟨mv,chm,es,cs,hom,hns,rfl,hok⟩:=hgr2
   obtain⟨l,hll,hlk,hst,hl1000,hlm⟩:=hok.lnk hnd hlv
   obtain⟨i0,nb,c,hmg,hci,⟨vv,vs,lcs,hvv,hln,h5,rfl⟩,hput⟩:=hns.get hnd
   obtain⟨ov,oc,hov,hoc,hown,hlput⟩:=hln.get hll
   obtain⟨Al,cl,rfl,hAl,hcl⟩:=hown.val
   have hvl:=hln.length
   have hcut:=strict_cut (x:=x1) hst
   have hcc:=cntLt_le x1 l
   have hok':=hok.link1 hnd hx1 hlv
   have hl1e:link1 lv g2 x0 x1=setLn g2 x0 lv (insU x1 l):=by unfold link1;rw [hlk]
   have hcil:=(List.getElem?_eq_some_iff.1 hci).1
   refine CW.go uz 6 rfl (LW.indexAddr (i*2) rfl rfl underlying349 ixs349 (by omega) (by omega) (by simp) rfl ?_)
   refine LW.loadAgg ([.int .i64 x0,.int .i64 x1]) rfl .t (hpc) underlying348 rfl (sze szt348) rfl ?_
   refine LW.alloc zero348 rfl ?_
   intro ba9
   refine LW.sA ([.int .i64 x0,.int .i64 x1]) szt348 (two_one rfl rfl) ?_
   refine LW.go uz 3 rfl ?_
   refine CW.front (p:=[cr p 284 [.int .i64 m,mv]]++(chm++cs.flatten)) .t (CW.gopen (flat_get hci) ?_)
   refine CW.drawH [cr p 284 [.int .i64 m,mv],cr ba9 348 [.int .i64 x0,.int .i64 x1],cr nb 281 (vv::iN nd.lv::vs)] mixed ?_
   refine AW.ts [0,1,2,3,4,5,7] 6 (TW.mv ?_)
   refine TW.np ?_
   refine TW.fa fa284_1 ?_
   refine TW.ld one282 ?_
   refine TW.take rfl (Yl.indexAddrA (_) rfl rfl underlying348 ixs348 (by omega) (by omega) (rfl)) rfl ?_
   refine TW.ld one3 ?_
   refine TW.mv ?_
   refine TW.nil (AW.a 6 ?_)
   refine LW.mapHit1 (u:=_) rfl rfl keyInt (hom) .t underlying282 underlying3 zero277 (hmg) rfl ?_
   refine LW.nil (AW.b (AW.ts [8,9,10,11,12] 0 (TW.np ?_)))
   refine TW.fa fa281_2 ?_
   refine TW.take rfl (Yl.indexAddrA (lv+1+1) rfl rfl underlying279 ixs279 (by omega) (by omega) (by simp;omega)) rfl ?_
   refine TW.take rfl (Yl.load (v:=.slice Al l.length cl) rfl (by repeat (first | exact List.Mem.head _ | refine List.Mem.tail _ ?_)) (by rw [List.getElem?_cons_succ,List.getElem?_cons_succ];exact hov) one85) rfl ?_
   refine TW.as ?_
   refine TW.nil (AW.d ?_)
   refine NW.go uz 4 rfl (LW.indexAddrA (_) rfl rfl underlying348 ixs348 (by omega) (by omega) (rfl) rfl ?_)
   refine LW.ld one3 ?_
   refine LW.eG (bin_search W B lcs.flatten (.slice Al l.length cl) l x1 (hown.sl.more fun y hy=>(flat_get hoc).mem_iff.1 (List.mem_append_left _ hy)) (by omega) hst) cl234 ?_
   refine LW.go uz 13 rfl ?_
   refine CW.cond rfl (fun hc45=>?_) (fun hc45=>?_)
   . have hcx:l.contains x1=false:=by simpa using hc45
     have hnc:¬ x1∈l:=fun hm=>by rw [List.contains_iff_mem.2 hm] at hcx;cases hcx
     have hins:insU x1 l=l.take (cntLt x1 l)++[x1]++l.drop (cntLt x1 l):=by rw [hcut.2.1,if_neg hnc]
     refine CW.front (p:=lcs.flatten) .t (CW.foc (flat_get hoc) ?_)
     refine CW.drawT [cr p 284 [.int .i64 m,mv],cr ba9 348 [.int .i64 x0,.int .i64 x1],cr nb 281 (vv::iN nd.lv::vs)] 17 mixed ?_
     refine AT.ts [(0,none),(1,none),(2,none),(3,some []),(4,none),(5,some []),(7,none),(8,none),(9,none),(10,none),(11,some [])] 7 (TT.mv ?_)
     refine TT.np ?_
     refine TT.fa fa284_1 ?_
     refine TT.ld one282 ?_
     refine TT.take rfl (Yl.indexAddrA (_) rfl rfl underlying348 ixs348 (by omega) (by omega) (rfl)) rfl ?_
     refine TT.ld one3 ?_
     refine TT.mv ?_
     refine TT.mv ?_
     refine TT.mv ?_
     refine TT.take rfl (Yl.indexAddrA (_) rfl rfl underlying348 ixs348 (by omega) (by omega) (rfl)) rfl ?_
     refine TT.ld one3 ?_
     refine TT.nil (AT.all [6,12] (by kernel_rfl) rfl ?_)
     refine ATs.cons rfl ?_ ?_
     . refine LW.mapHit1 (u:=_) rfl rfl keyInt (hom) .t underlying282 underlying3 zero277 (hmg) rfl ?_
       refine LW.nil (AT.b (AT.ts [(14,none),(15,none)] 4 (TT.np ?_)))
       refine TT.fa fa281_2 ?_
       refine TT.nil (AT.a 12 ?_)
       refine LW.bs [_] underlying85 info3 ?_
       intro bs58
       refine LW.nil (AT.b (AT.a 13 ?_))
       refine LW.cT (ins_235 W B (.slice Al l.length cl) l.length (cntLt x1 l) (l.map i64k) [.int .i64 x1] oc bs58 hown hcc rfl (i64k_one l) (by intro u hu;simp at hu;subst hu;rfl) (by omega)) cl235 .n2 ?_
       rintro r _ ⟨ch2,ho2,rfl⟩;refine LW.splitA ?_
       refine LW.nil (AT.b (AT.ts [(16,none)] 1 (TT.take rfl (Yl.indexAddrA (lv+1+1) rfl rfl underlying279 ixs279 (by omega) (by omega) (by simp;omega)) rfl ?_)))
       refine TT.nil (AT.a 17 ?_)
       refine LW.store rfl rfl .t (by simp [hvl.1,h5];omega) sz85 (ho2.one) ?_
       refine LW.nil (AT.backK (by kernel_rfl) ?_)
       refine AT.done (by kernel_rfl) ?_
       have ho3:OwnS 3 1 r (insU x1 l).length ((insU x1 l).map i64k) ch2:=by
         rw [Nat.mul_one,<- List.map_take,<- List.map_drop,show [Value.int .i64 x1]=[x1].map i64k from rfl,<- List.map_append,<- List.map_append,<- hins] at ho2
         rw [show (insU x1 l).length=l.length+1 by rw [hins];simp;omega];exact ho2
       have hnr:NodeR W B im nb { nd with ln:=nd.ln.set lv (insU x1 l) } ([cr nb 281 (vv::iN nd.lv::vs.set lv r)]++(lcs.set lv ch2).flatten):=⟨vv,vs.set lv r,lcs.set lv ch2,hvv,hlput _ _ _ ho3,by simp;exact h5,rfl⟩
       have hgn:GraR W B im p m (link1 lv g2 x0 x1) ([cr p 284 [.int .i64 m,mv]]++(chm++(cs.set i0 ([cr nb 281 (vv::iN nd.lv::vs.set lv r)]++(lcs.set lv ch2).flatten)).flatten)):=⟨mv,chm,es,_,hom,by rw [hl1e,setLn_some hnd];exact hput _ _ hnr,rfl,hok'⟩
       refine NW.front (p:=(lcs.eraseIdx lv).flatten) .t (NW.front (p:=ch2) .t (NW.unfoc (a:=(lcs.set lv ch2).flatten) (flat_set (by rw [hvl.2,h5];omega)) ?_))
       refine NW.gclose (rp:=cr p 284 [.int .i64 m,mv]) (chm:=chm) (rb:=cr nb 281 (vv::iN nd.lv::vs.set lv r)) (L:=(lcs.set lv ch2).flatten) (R:=(cs.eraseIdx i0).flatten) .t .t .t .t .t (flat_set hcil) ?_
       refine NW.go uz 3 rfl (LW.ad ((i+1:Int)) ?_)
       exact LW.go uz 2 rfl (NW.mG ((i+1,link1 lv g2 x0 x1,_)) (by exact⟨⟨by omega,hgn,link1_get.2 ha2,link1_get.2 hb2,fun h=>(by cases h),fun h=>by (rcases hxs with ⟨rfl,rfl,rfl⟩ | ⟨rfl,_,_⟩;(rw [h0 rfl]);cases h),fun h=>by (rcases hxs with ⟨rfl,_,_⟩ | ⟨rfl,rfl,rfl⟩;cases h;(rw [h1 rfl];rfl))⟩,by dsimp only;omega⟩))
     refine ATs.cons rfl ?_ ?_
     . refine LW.bs [_] underlying85 info3 ?_
       intro bs58
       refine LW.nil (AT.b (AT.all [6,13] (by kernel_rfl) rfl ?_))
       refine ATs.cons rfl ?_ ?_
       . refine LW.mapHit1 (u:=_) rfl rfl keyInt (hom) .t underlying282 underlying3 zero277 (hmg) rfl ?_
         refine LW.nil (AT.b (AT.ts [(14,none),(15,none)] 3 (TT.np ?_)))
         refine TT.fa fa281_2 ?_
         refine TT.nil (AT.a 13 ?_)
         refine LW.cT (ins_235 W B (.slice Al l.length cl) l.length (cntLt x1 l) (l.map i64k) [.int .i64 x1] oc bs58 hown hcc rfl (i64k_one l) (by intro u hu;simp at hu;subst hu;rfl) (by omega)) cl235 .n2 ?_
         rintro r _ ⟨ch2,ho2,rfl⟩;refine LW.splitA ?_
         refine LW.nil (AT.b (AT.ts [(16,none)] 1 (TT.take rfl (Yl.indexAddrA (lv+1+1) rfl rfl underlying279 ixs279 (by omega) (by omega) (by simp;omega)) rfl ?_)))
         refine TT.nil (AT.a 17 ?_)
         refine LW.store rfl rfl .t (by simp [hvl.1,h5];omega) sz85 (ho2.one) ?_
         refine LW.nil (AT.backK (by kernel_rfl) ?_)
         refine AT.done (by kernel_rfl) ?_
         have ho3:OwnS 3 1 r (insU x1 l).length ((insU x1 l).map i64k) ch2:=by
          rw [Nat.mul_one,<- List.map_take,<- List.map_drop,show [Value.int .i64 x1]=[x1].map i64k from rfl,<- List.map_append,<- List.map_append,<- hins] at ho2
          rw [show (insU x1 l).length=l.length+1 by rw [hins];simp;omega];exact ho2
         have hnr:NodeR W B im nb { nd with ln:=nd.ln.set lv (insU x1 l) } ([cr nb 281 (vv::iN nd.lv::vs.set lv r)]++(lcs.set lv ch2).flatten):=⟨vv,vs.set lv r,lcs.set lv ch2,hvv,hlput _ _ _ ho3,by simp;exact h5,rfl⟩
         have hgn:GraR W B im p m (link1 lv g2 x0 x1) ([cr p 284 [.int .i64 m,mv]]++(chm++(cs.set i0 ([cr nb 281 (vv::iN nd.lv::vs.set lv r)]++(lcs.set lv ch2).flatten)).flatten)):=⟨mv,chm,es,_,hom,by rw [hl1e,setLn_some hnd];exact hput _ _ hnr,rfl,hok'⟩
         refine NW.front (p:=(lcs.eraseIdx lv).flatten) .t (NW.front (p:=ch2) .t (NW.unfoc (a:=(lcs.set lv ch2).flatten) (flat_set (by rw [hvl.2,h5];omega)) ?_))
         refine NW.gclose (rp:=cr p 284 [.int .i64 m,mv]) (chm:=chm) (rb:=cr nb 281 (vv::iN nd.lv::vs.set lv r)) (L:=(lcs.set lv ch2).flatten) (R:=(cs.eraseIdx i0).flatten) .t .t .t .t .t (flat_set hcil) ?_
         refine NW.go uz 3 rfl (LW.ad ((i+1:Int)) ?_)
         exact LW.go uz 2 rfl (NW.mG ((i+1,link1 lv g2 x0 x1,_)) (by exact⟨⟨by omega,hgn,link1_get.2 ha2,link1_get.2 hb2,fun h=>(by cases h),fun h=>by (rcases hxs with ⟨rfl,rfl,rfl⟩ | ⟨rfl,_,_⟩;(rw [h0 rfl]);cases h),fun h=>by (rcases hxs with ⟨rfl,_,_⟩ | ⟨rfl,rfl,rfl⟩;cases h;(rw [h1 rfl];rfl))⟩,by dsimp only;omega⟩))
       refine ATs.cons rfl ?_ ?_
       . refine LW.cT (ins_235 W B (.slice Al l.length cl) l.length (cntLt x1 l) (l.map i64k) [.int .i64 x1] oc bs58 hown hcc rfl (i64k_one l) (by intro u hu;simp at hu;subst hu;rfl) (by omega)) cl235 .n2 ?_
         rintro r _ ⟨ch2,ho2,rfl⟩;refine LW.splitA ?_
         refine LW.nil (AT.b (AT.a 6 ?_))
         refine LW.mapHit1 (u:=_) rfl rfl keyInt (hom) .t underlying282 underlying3 zero277 (hmg) rfl ?_
         refine LW.nil (AT.b (AT.ts [(14,none),(15,none),(16,none)] 1 (TT.np ?_)))
         refine TT.fa fa281_2 ?_
         refine TT.take rfl (Yl.indexAddrA (lv+1+1) rfl rfl underlying279 ixs279 (by omega) (by omega) (by simp;omega)) rfl ?_
         refine TT.nil (AT.a 17 ?_)
         refine LW.store rfl rfl .t (by simp [hvl.1,h5];omega) sz85 (ho2.one) ?_
         refine LW.nil (AT.backK (by kernel_rfl) ?_)
         refine AT.done (by kernel_rfl) ?_
         have ho3:OwnS 3 1 r (insU x1 l).length ((insU x1 l).map i64k) ch2:=by
          rw [Nat.mul_one,<- List.map_take,<- List.map_drop,show [Value.int .i64 x1]=[x1].map i64k from rfl,<- List.map_append,<- List.map_append,<- hins] at ho2
          rw [show (insU x1 l).length=l.length+1 by rw [hins];simp;omega];exact ho2
         have hnr:NodeR W B im nb { nd with ln:=nd.ln.set lv (insU x1 l) } ([cr nb 281 (vv::iN nd.lv::vs.set lv r)]++(lcs.set lv ch2).flatten):=⟨vv,vs.set lv r,lcs.set lv ch2,hvv,hlput _ _ _ ho3,by simp;exact h5,rfl⟩
         have hgn:GraR W B im p m (link1 lv g2 x0 x1) ([cr p 284 [.int .i64 m,mv]]++(chm++(cs.set i0 ([cr nb 281 (vv::iN nd.lv::vs.set lv r)]++(lcs.set lv ch2).flatten)).flatten)):=⟨mv,chm,es,_,hom,by rw [hl1e,setLn_some hnd];exact hput _ _ hnr,rfl,hok'⟩
         refine NW.front (p:=(lcs.eraseIdx lv).flatten) .t (NW.front (p:=ch2) .t (NW.unfoc (a:=(lcs.set lv ch2).flatten) (flat_set (by rw [hvl.2,h5];omega)) ?_))
         refine NW.gclose (rp:=cr p 284 [.int .i64 m,mv]) (chm:=chm) (rb:=cr nb 281 (vv::iN nd.lv::vs.set lv r)) (L:=(lcs.set lv ch2).flatten) (R:=(cs.eraseIdx i0).flatten) .t .t .t .t .t (flat_set hcil) ?_
         refine NW.go uz 3 rfl (LW.ad ((i+1:Int)) ?_)
         exact LW.go uz 2 rfl (NW.mG ((i+1,link1 lv g2 x0 x1,_)) (by exact⟨⟨by omega,hgn,link1_get.2 ha2,link1_get.2 hb2,fun h=>(by cases h),fun h=>by (rcases hxs with ⟨rfl,rfl,rfl⟩ | ⟨rfl,_,_⟩;(rw [h0 rfl]);cases h),fun h=>by (rcases hxs with ⟨rfl,_,_⟩ | ⟨rfl,rfl,rfl⟩;cases h;(rw [h1 rfl];rfl))⟩,by dsimp only;omega⟩))
       exact ATs.nil
     exact ATs.nil
   . have hcx:l.contains x1=true:=by simpa using hc45
     have hic:x1∈l:=List.contains_iff_mem.1 hcx
     have hsame:link1 lv g2 x0 x1=g2:=by rw [hl1e,hcut.2.1,if_pos hic,setLn_same hnd hll]
     refine CW.gclose (rp:=cr p 284 [.int .i64 m,mv]) (chm:=chm) .t .t .t .t .t (flat_get hci) ?_
     refine CW.go uz 4 rfl (LW.ad ((i+1:Int)) ?_)
     exact LW.go uz 2 rfl (NW.mG ((i+1,g2,[cr p 284 [.int .i64 m,mv]]++(chm++cs.flatten))) (by exact⟨⟨by omega,⟨mv,chm,es,cs,hom,hns,rfl,hok⟩,ha2,hb2,fun h=>(by cases h),fun h=>by (rcases hxs with ⟨rfl,rfl,rfl⟩ | ⟨rfl,_,_⟩;(rw [<- h0 rfl];exact hsame.symm);cases h),fun h=>by (rcases hxs with ⟨rfl,_,_⟩ | ⟨rfl,rfl,rfl⟩;cases h;(show g2=link1 lv (link1 lv g _ _) _ _;rw [<- h1 rfl];exact hsame.symm))⟩,by dsimp only;omega⟩))
 . have hin:i=2:=oF hc22
   refine CW.go uz 2 rfl (NW.then_exit (NW.go uz 1 rfl ?_))
   refine NW.end0 rfl  ⟨_,⟨rfl,by rw [<- h2 hin];exact hgr2⟩,?_⟩
   exact (Sub.one .t)
set_option maxHeartbeats 4000000 in
theorem gra_part (p:Nat)(m:Int)(g:GraP)(rows im:List Row)(a b:Int)(lv:Nat)(hg:GraR W B im p m g rows)(ha:∃ nd,aget g a=some nd)(hb:∃ nd,aget g b=some nd)(hlv:lv<=4) :
   Spec prog W B 175 [ptr p,.int .i64 a,.int .i64 b,iN lv] rows (fun r post=>r=.tuple #[]/\GraR W B im p m (partP g a b lv) post):=by
 refine Spec.eG [rows] func175 ntmps175 fun w0=>?_
 refine CW.go uz 4 rfl (LW.bd [_,_] (#[.int .i64 a,.int .i64 b]) ?_)
 refine LW.go uz 2 rfl (LW.bd [_,_] (#[.int .i64 b,.int .i64 a]) ?_)
 refine LW.buildSliceA [[.int .i64 a,.int .i64 b],[.int .i64 b,.int .i64 a]] ⟨rfl,rfl,trivial⟩ rfl (by intro v hv;simp at hv;rcases hv with rfl | rfl<;>rfl) (by decide) underlying349 info348 rfl (by decide) (by decide) rfl ?_
 intro bs19
 refine LW.go uz 5 rfl ?_
 refine CW.loopG (fun st:Nat×GraP×List Row=>[(21,iN st.1),(20,.int .i64 2),(19,.slice (sA bs19) 2 2),(0,ptr p),(3,iN lv)]) (fun st=>[st.2.2,[cr bs19 348 ([[Value.int .i64 a,.int .i64 b],[.int .i64 b,.int .i64 a]].flatten)]]) (fun st=>st.1<=2/\GraR W B im p m st.2.1 st.2.2/\(∃ nd,aget st.2.1 a=some nd)/\(∃ nd,aget st.2.1 b=some nd)/\(st.1=0->st.2.1=g)/\(st.1=1->st.2.1=part1 lv g a b)/\(st.1=2->st.2.1=partP g a b lv)) (fun st=>2-st.1) (0,g,rows) (by exact⟨Nat.zero_le _,hg,ha,hb,fun _=>rfl,fun h=>(by cases h),fun h=>(by cases h)⟩) rfl (by repeat' constructor) ?_
 rintro⟨i,g2,rows2⟩ ⟨hi,hgr2,ha2,hb2,h0,h1,h2⟩;dsimp only at hi hgr2 ha2 hb2 h0 h1 h2 |-
 refine CW.go uz 2 rfl (LW.lss (decide ((i:Int)<2)) rfl rfl (rfl) rfl ?_)
 refine LW.go uz 3 rfl ?_
 refine CW.cond rfl (fun hc22=>?_) (fun hc22=>?_)
 . have hin:i<2:=oT hc22
   obtain⟨x0,x1,hpc,hxs⟩:=pair_cells (a:=a) (b:=b) hin
   obtain⟨nd,hnd⟩:∃ nd,aget g2 x0=some nd:=by rcases hxs with ⟨_,rfl,rfl⟩ | ⟨_,rfl,rfl⟩;exact ha2;exact hb2
   obtain⟨mv,chm,es,cs,hom,hns,rfl,hok⟩:=hgr2
   obtain⟨l,hll,hlk,hst,hl1000,hlm⟩:=hok.lnk hnd hlv
   obtain⟨i0,nb,c,hmg,hci,⟨vv,vs,lcs,hvv,hln,h5,rfl⟩,hput⟩:=hns.get hnd
   obtain⟨ov,oc,hov,hoc,hown,hlput⟩:=hln.get hll
   obtain⟨Al,cl,rfl,hAl,hcl⟩:=hown.val
   have hvl:=hln.length
   have hcut:=strict_cut (x:=x1) hst
   have hcc:=cntLt_le x1 l
   have hok':=hok.part1 (b:=x1) hnd hlv
   have hl1e:part1 lv g2 x0 x1=setLn g2 x0 lv (l.erase x1):=by unfold part1;rw [hlk]
   have hcil:=(List.getElem?_eq_some_iff.1 hci).1
   refine CW.go uz 6 rfl (LW.indexAddr (i*2) rfl rfl underlying349 ixs349 (by omega) (by omega) (by simp) rfl ?_)
   refine LW.loadAgg ([.int .i64 x0,.int .i64 x1]) rfl .t (hpc) underlying348 rfl (sze szt348) rfl ?_
   refine LW.alloc zero348 rfl ?_
   intro ba9
   refine LW.sA ([.int .i64 x0,.int .i64 x1]) szt348 (two_one rfl rfl) ?_
   refine LW.go uz 3 rfl ?_
   refine CW.front (p:=[cr p 284 [.int .i64 m,mv]]++(chm++cs.flatten)) .t (CW.gopen (flat_get hci) ?_)
   refine CW.drawH [cr p 284 [.int .i64 m,mv],cr ba9 348 [.int .i64 x0,.int .i64 x1]] mixed ?_
   refine AW.ts [0,1,2,3,4,5] 2 (TW.mv ?_)
   refine TW.np ?_
   refine TW.fa fa284_1 ?_
   refine TW.ld one282 ?_
   refine TW.take rfl (Yl.indexAddrA (_) rfl rfl underlying348 ixs348 (by omega) (by omega) (rfl)) rfl ?_
   refine TW.ld one3 ?_
   refine TW.nil (AW.a 6 ?_)
   refine LW.mapHit1 (u:=_) rfl rfl keyInt (hom) .t underlying282 underlying3 zero277 (hmg) rfl ?_
   refine LW.nil (AW.b (AW.ts [7] 0 (TW.as ?_)))
   refine TW.nil (AW.d ?_)
   refine NW.go uz 2 rfl (CW.drawH [cr ba9 348 [.int .i64 x0,.int .i64 x1],cr nb 281 (vv::iN nd.lv::vs)] mixed ?_)
   refine AW.ts [0,1,2,3,4,5,6,7] 6 (TW.mv ?_)
   refine TW.mv ?_
   refine TW.np ?_
   refine TW.fa fa281_2 ?_
   refine TW.take rfl (Yl.indexAddrA (lv+1+1) rfl rfl underlying279 ixs279 (by omega) (by omega) (by simp;omega)) rfl ?_
   refine TW.take rfl (Yl.load (v:=.slice Al l.length cl) rfl (by repeat (first | exact List.Mem.head _ | refine List.Mem.tail _ ?_)) (by rw [List.getElem?_cons_succ,List.getElem?_cons_succ];exact hov) one85) rfl ?_
   refine TW.take rfl (Yl.indexAddrA (_) rfl rfl underlying348 ixs348 (by omega) (by omega) (rfl)) rfl ?_
   refine TW.ld one3 ?_
   refine TW.nil (AW.a 8 ?_)
   refine LW.eG (bin_search W B lcs.flatten (.slice Al l.length cl) l x1 (hown.sl.more fun y hy=>(flat_get hoc).mem_iff.1 (List.mem_append_left _ hy)) (by omega) hst) cl234 ?_
   refine LW.nil (AW.b (AW.ts [9] 4 (TW.mv ?_)))
   refine TW.nil (AW.all [10,11] (by kernel_rfl) rfl ?_)
   refine AWs.cons rfl ?_ ?_
   . refine LW.extract rfl rfl rfl ?_
     refine LW.nil (AW.b (AW.ts [12] 2 (TW.as ?_)))
     refine TW.nil (AW.a 11 ?_)
     refine LW.extract rfl rfl rfl ?_
     refine LW.nil (AW.b (AW.ts [13] 0 (TW.as ?_)))
     refine TW.nil (AW.d ?_)
     refine NW.go uz 6 rfl ?_
     refine CW.cond rfl (fun hc44=>?_) (fun hc44=>?_)
     . have hic:x1∈l:=List.contains_iff_mem.1 hc44
       have hidx:=hcut.1 hic
       have hil:=(List.getElem?_eq_some_iff.1 hidx).1
       have hers:=hcut.2.2 hic
       refine CW.front (p:=lcs.flatten) .t (CW.foc (flat_get hoc) ?_)
       refine CW.drawT [cr nb 281 (vv::iN nd.lv::vs)] 15 mixed ?_
       refine AT.ts [(0,none),(1,none),(2,none),(3,none),(4,none),(5,none),(6,none),(7,some []),(8,none),(9,none),(10,none),(12,none),(13,none)] 3 (TT.mv ?_)
       refine TT.mv ?_
       refine TT.mv ?_
       refine TT.mv ?_
       refine TT.np ?_
       refine TT.fa fa281_2 ?_
       refine TT.take rfl (Yl.indexAddrA (lv+1+1) rfl rfl underlying279 ixs279 (by omega) (by omega) (by simp;omega)) rfl ?_
       refine TT.takeH rfl (Yl.load (v:=.slice Al l.length cl) rfl (by repeat (first | exact List.Mem.head _ | refine List.Mem.tail _ ?_)) (by rw [List.getElem?_cons_succ,List.getElem?_cons_succ];exact hov) one85) rfl ?_
       refine TT.mv ?_
       refine TT.mv ?_
       refine TT.take rfl (Yl.add (((cntLt x1 l+1:Nat):Int)) rfl rfl w4) rfl ?_
       refine TT.np ?_
       refine TT.fa fa281_2 ?_
       refine TT.nil (AT.a 11 ?_)
       refine LW.cG (sl_Delete W B (.slice Al l.length cl) l (cntLt x1 l) oc hown hil (by omega)) cl241 ?_
       rintro r ch2 ho2
       refine LW.nil (AT.b (AT.ts [(14,none)] 1 (TT.take rfl (Yl.indexAddrA (lv+1+1) rfl rfl underlying279 ixs279 (by omega) (by omega) (by simp;omega)) rfl ?_)))
       refine TT.nil (AT.a 15 ?_)
       refine LW.store rfl rfl .t (by simp [hvl.1,h5];omega) sz85 (ho2.one) ?_
       refine LW.nil (AT.backK (by kernel_rfl) ?_)
       refine AT.done (by kernel_rfl) ?_
       have ho3:OwnS 3 1 r (l.erase x1).length ((l.erase x1).map i64k) ch2:=by
        rw [hers,show (l.take (cntLt x1 l)++l.drop (cntLt x1 l+1)).length=l.length-1 by simp;omega];exact ho2
       have hnr:NodeR W B im nb { nd with ln:=nd.ln.set lv (l.erase x1) } ([cr nb 281 (vv::iN nd.lv::vs.set lv r)]++(lcs.set lv ch2).flatten):=⟨vv,vs.set lv r,lcs.set lv ch2,hvv,hlput _ _ _ ho3,by simp;exact h5,rfl⟩
       have hgn:GraR W B im p m (part1 lv g2 x0 x1) ([cr p 284 [.int .i64 m,mv]]++(chm++(cs.set i0 ([cr nb 281 (vv::iN nd.lv::vs.set lv r)]++(lcs.set lv ch2).flatten)).flatten)):=⟨mv,chm,es,_,hom,by rw [hl1e,setLn_some hnd];exact hput _ _ hnr,rfl,hok'⟩
       refine NW.front (p:=(lcs.eraseIdx lv).flatten) .t (NW.front (p:=ch2) .t (NW.unfoc (a:=(lcs.set lv ch2).flatten) (flat_set (by rw [hvl.2,h5];omega)) ?_))
       refine NW.gclose (rp:=cr p 284 [.int .i64 m,mv]) (chm:=chm) (rb:=cr nb 281 (vv::iN nd.lv::vs.set lv r)) (L:=(lcs.set lv ch2).flatten) (R:=(cs.eraseIdx i0).flatten) .t .t .t .t .t (flat_set hcil) ?_
       refine NW.go uz 3 rfl (LW.ad ((i+1:Int)) ?_)
       exact LW.go uz 2 rfl (NW.mG ((i+1,part1 lv g2 x0 x1,_)) (by exact⟨⟨by omega,hgn,part1_get.2 ha2,part1_get.2 hb2,fun h=>(by cases h),fun h=>by (rcases hxs with ⟨rfl,rfl,rfl⟩ | ⟨rfl,_,_⟩;(rw [h0 rfl]);cases h),fun h=>by (rcases hxs with ⟨rfl,_,_⟩ | ⟨rfl,rfl,rfl⟩;cases h;(rw [h1 rfl];rfl))⟩,by dsimp only;omega⟩))
     . have hnc:¬ x1∈l:=fun hm=>by rw [List.contains_iff_mem.2 hm] at hc44;cases hc44
       have hsame:part1 lv g2 x0 x1=g2:=by rw [hl1e,List.erase_of_not_mem hnc,setLn_same hnd hll]
       refine CW.gclose (rp:=cr p 284 [.int .i64 m,mv]) (chm:=chm) .t .t .t .t .t (flat_get hci) ?_
       refine CW.go uz 4 rfl (LW.ad ((i+1:Int)) ?_)
       exact LW.go uz 2 rfl (NW.mG ((i+1,g2,[cr p 284 [.int .i64 m,mv]]++(chm++cs.flatten))) (by exact⟨⟨by omega,⟨mv,chm,es,cs,hom,hns,rfl,hok⟩,ha2,hb2,fun h=>(by cases h),fun h=>by (rcases hxs with ⟨rfl,rfl,rfl⟩ | ⟨rfl,_,_⟩;(rw [<- h0 rfl];exact hsame.symm);cases h),fun h=>by (rcases hxs with ⟨rfl,_,_⟩ | ⟨rfl,rfl,rfl⟩;cases h;(show g2=part1 lv (part1 lv g _ _) _ _;rw [<- h1 rfl];exact hsame.symm))⟩,by dsimp only;omega⟩))
   refine AWs.cons rfl ?_ ?_
   . refine LW.extract rfl rfl rfl ?_
     refine LW.nil (AW.b (AW.a 10 ?_))
     refine LW.extract rfl rfl rfl ?_
     refine LW.nil (AW.b (AW.ts [12,13] 0 (TW.as ?_)))
     refine TW.as ?_
     refine TW.nil (AW.d ?_)
     refine NW.go uz 6 rfl ?_
     refine CW.cond rfl (fun hc44=>?_) (fun hc44=>?_)
     . have hic:x1∈l:=List.contains_iff_mem.1 hc44
       have hidx:=hcut.1 hic
       have hil:=(List.getElem?_eq_some_iff.1 hidx).1
       have hers:=hcut.2.2 hic
       refine CW.front (p:=lcs.flatten) .t (CW.foc (flat_get hoc) ?_)
       refine CW.drawT [cr nb 281 (vv::iN nd.lv::vs)] 15 mixed ?_
       refine AT.ts [(0,none),(1,none),(2,none),(3,none),(4,none),(5,none),(6,none),(7,some []),(8,none),(9,none),(10,none),(12,none),(13,none)] 3 (TT.mv ?_)
       refine TT.mv ?_
       refine TT.mv ?_
       refine TT.mv ?_
       refine TT.np ?_
       refine TT.fa fa281_2 ?_
       refine TT.take rfl (Yl.indexAddrA (lv+1+1) rfl rfl underlying279 ixs279 (by omega) (by omega) (by simp;omega)) rfl ?_
       refine TT.takeH rfl (Yl.load (v:=.slice Al l.length cl) rfl (by repeat (first | exact List.Mem.head _ | refine List.Mem.tail _ ?_)) (by rw [List.getElem?_cons_succ,List.getElem?_cons_succ];exact hov) one85) rfl ?_
       refine TT.mv ?_
       refine TT.mv ?_
       refine TT.take rfl (Yl.add (((cntLt x1 l+1:Nat):Int)) rfl rfl w4) rfl ?_
       refine TT.np ?_
       refine TT.fa fa281_2 ?_
       refine TT.nil (AT.a 11 ?_)
       refine LW.cG (sl_Delete W B (.slice Al l.length cl) l (cntLt x1 l) oc hown hil (by omega)) cl241 ?_
       rintro r ch2 ho2
       refine LW.nil (AT.b (AT.ts [(14,none)] 1 (TT.take rfl (Yl.indexAddrA (lv+1+1) rfl rfl underlying279 ixs279 (by omega) (by omega) (by simp;omega)) rfl ?_)))
       refine TT.nil (AT.a 15 ?_)
       refine LW.store rfl rfl .t (by simp [hvl.1,h5];omega) sz85 (ho2.one) ?_
       refine LW.nil (AT.backK (by kernel_rfl) ?_)
       refine AT.done (by kernel_rfl) ?_
       have ho3:OwnS 3 1 r (l.erase x1).length ((l.erase x1).map i64k) ch2:=by
        rw [hers,show (l.take (cntLt x1 l)++l.drop (cntLt x1 l+1)).length=l.length-1 by simp;omega];exact ho2
       have hnr:NodeR W B im nb { nd with ln:=nd.ln.set lv (l.erase x1) } ([cr nb 281 (vv::iN nd.lv::vs.set lv r)]++(lcs.set lv ch2).flatten):=⟨vv,vs.set lv r,lcs.set lv ch2,hvv,hlput _ _ _ ho3,by simp;exact h5,rfl⟩
       have hgn:GraR W B im p m (part1 lv g2 x0 x1) ([cr p 284 [.int .i64 m,mv]]++(chm++(cs.set i0 ([cr nb 281 (vv::iN nd.lv::vs.set lv r)]++(lcs.set lv ch2).flatten)).flatten)):=⟨mv,chm,es,_,hom,by rw [hl1e,setLn_some hnd];exact hput _ _ hnr,rfl,hok'⟩
       refine NW.front (p:=(lcs.eraseIdx lv).flatten) .t (NW.front (p:=ch2) .t (NW.unfoc (a:=(lcs.set lv ch2).flatten) (flat_set (by rw [hvl.2,h5];omega)) ?_))
       refine NW.gclose (rp:=cr p 284 [.int .i64 m,mv]) (chm:=chm) (rb:=cr nb 281 (vv::iN nd.lv::vs.set lv r)) (L:=(lcs.set lv ch2).flatten) (R:=(cs.eraseIdx i0).flatten) .t .t .t .t .t (flat_set hcil) ?_
       refine NW.go uz 3 rfl (LW.ad ((i+1:Int)) ?_)
       exact LW.go uz 2 rfl (NW.mG ((i+1,part1 lv g2 x0 x1,_)) (by exact⟨⟨by omega,hgn,part1_get.2 ha2,part1_get.2 hb2,fun h=>(by cases h),fun h=>by (rcases hxs with ⟨rfl,rfl,rfl⟩ | ⟨rfl,_,_⟩;(rw [h0 rfl]);cases h),fun h=>by (rcases hxs with ⟨rfl,_,_⟩ | ⟨rfl,rfl,rfl⟩;cases h;(rw [h1 rfl];rfl))⟩,by dsimp only;omega⟩))
     . have hnc:¬ x1∈l:=fun hm=>by rw [List.contains_iff_mem.2 hm] at hc44;cases hc44
       have hsame:part1 lv g2 x0 x1=g2:=by rw [hl1e,List.erase_of_not_mem hnc,setLn_same hnd hll]
       refine CW.gclose (rp:=cr p 284 [.int .i64 m,mv]) (chm:=chm) .t .t .t .t .t (flat_get hci) ?_
       refine CW.go uz 4 rfl (LW.ad ((i+1:Int)) ?_)
       exact LW.go uz 2 rfl (NW.mG ((i+1,g2,[cr p 284 [.int .i64 m,mv]]++(chm++cs.flatten))) (by exact⟨⟨by omega,⟨mv,chm,es,cs,hom,hns,rfl,hok⟩,ha2,hb2,fun h=>(by cases h),fun h=>by (rcases hxs with ⟨rfl,rfl,rfl⟩ | ⟨rfl,_,_⟩;(rw [<- h0 rfl];exact hsame.symm);cases h),fun h=>by (rcases hxs with ⟨rfl,_,_⟩ | ⟨rfl,rfl,rfl⟩;cases h;(show g2=part1 lv (part1 lv g _ _) _ _;rw [<- h1 rfl];exact hsame.symm))⟩,by dsimp only;omega⟩))
   exact AWs.nil
 . have hin:i=2:=oF hc22
   refine CW.go uz 2 rfl (NW.then_exit (NW.go uz 1 rfl ?_))
   refine NW.end0 rfl  ⟨_,⟨rfl,by rw [<- h2 hin];exact hgr2⟩,?_⟩
   exact (Sub.one .t)
theorem bestOf_mem {k:Nat}{hs:List (Int×Int)}{x:Int×Int}(hx:x∈bestOf k hs):x∈hs:=by
 unfold bestOf at hx
 have h:∀ (hs l:List (Int×Int)),x∈hs.foldl (putB k) l->x∈l\/x∈hs:=by
   intro hs
   induction hs with
   | nil=>intro l h;exact .inl h
   | cons y r ih=>
    intro l h
    rw [List.foldl_cons] at h
    rcases ih _ h with h | h
    . rcases putB_mem h with rfl | h
      . exact .inr List.mem_cons_self
      . exact .inl h
    . exact .inr (List.mem_cons_of_mem _ h)
 rcases h hs [] hx with h | h
 . cases h
 . exact h
theorem ranked_mem {m:Int}{g:GraP}{id x:Int}{l:List Int}(hx:x∈rankedP m g id l):x∈l:=by
 unfold rankedP at hx
 obtain⟨y,hy,rfl⟩:=List.mem_map.1 hx
 obtain⟨z,hz,rfl⟩:=List.mem_map.1 (bestOf_mem hy)
 exact hz
theorem ranked_len (m:Int)(g:GraP)(id:Int)(l:List Int):(rankedP m g id l).length<=l.length:=by unfold rankedP;rw [List.length_map];exact bestOf_len _ _
theorem part_get {g:GraP}{a b:Int}{lv:Nat}{y:Int}:(∃ nd,aget (partP g a b lv) y=some nd)↔∃ nd,aget g y=some nd:=part1_get.trans part1_get
theorem link_get {g:GraP}{a b:Int}{lv:Nat}{y:Int}:(∃ nd,aget (linkP g a b lv) y=some nd)↔∃ nd,aget g y=some nd:=link1_get.trans link1_get
theorem parts_get {lv:Nat}{id y:Int}:∀ {l:List Int} {g:GraP},(∃ nd,aget (l.foldl (fun g x=>partP g id x lv) g) y=some nd)↔∃ nd,aget g y=some nd
 | [],_=>Iff.rfl
 | x::r,g=>(parts_get (l:=r)).trans part_get
theorem prune_get {m:Int}{g:GraP}{id:Int}{lv:Nat}{y:Int}:(∃ nd,aget (pruneP m g id lv) y=some nd)↔∃ nd,aget g y=some nd:=parts_get
variable {W B}
theorem OwnS.cutFrom {A:Option Addr}{n cp k:Nat}{xs:List Int}{ch:List Row}(o:OwnS 3 1 (.slice A n cp) n (xs.map i64k) ch)(hl:xs.length=n)(hk:k<=n):SlAt W B ch (.slice (cutA A cp k 1) (n-k) (cp-k)) (n-k) ((xs.drop k).map i64k) 1:=by
 have hdl:(xs.drop k).length=n-k:=by simp [hl]
 rcases o with ⟨hv,h1,h2,h3⟩ | ⟨b,cap,slack,hv,hxl,hc,hs,rfl⟩
 . injection hv with e1 e2 e3
   subst e1 e3
   have hn0:n=0:=h1
   refine⟨_,_,rfl,by omega,by rw [List.length_map,hdl];omega,?_,fun _=>by omega⟩
   rw [List.drop_eq_nil_of_le (by omega)]
   exact Src.nil
 . injection hv with e1 e2 e3
   subst e1 e3
   refine⟨_,_,rfl,by omega,by rw [List.length_map,hdl,Nat.mul_one],?_,fun h=>?_⟩
   . by_cases h:cp=k
     . rw [List.drop_eq_nil_of_le (by omega)];exact Src.nil
     . rw [cutA,if_neg h,Option.map_some,Addr.add_lit,Nat.mul_one,Nat.zero_add]
       refine Src.row fun j v hj=>?_
       have hjl:=(List.getElem?_eq_some_iff.1 hj).1
       rw [List.length_map,hdl] at hjl
       rw [List.getElem?_append_left (by simp;omega)]
       rw [List.map_drop,List.getElem?_drop] at hj
       exact hj
   . unfold cutA at h
     split at h<;>simp at h
variable (W B)
theorem gra_prune (p:Nat)(m:Int)(g:GraP)(rows im:List Row)(id:Int)(lv:Nat)(hg:GraR W B im p m g rows)(ha:∃ nd,aget g id=some nd)(hlv:lv<=4) :
   Spec prog W B 169 [ptr p,.int .i64 id,iN lv] (rows++im) (fun r post=>r=.tuple #[]/\∃ rows',GraR W B im p m (pruneP m g id lv) rows'/\post=rows'++im):=by
 obtain⟨nd,hnd⟩:=ha
 have hgr:=hg
 obtain⟨mv,chm,es,cs,hom,hns,hrows,hok⟩:=hg
 obtain⟨l,hll,hlk,hst,hl1000,hlm⟩:=hok.lnk hnd hlv
 obtain⟨i0,nb,c,hmg,hci,⟨vv,vs,lcs,hvv,hln,h5,rfl⟩,hput⟩:=hns.get hnd
 obtain⟨ov,oc,hov,hoc,hown,hlput⟩:=hln.get hll
 obtain⟨Al,cl,rfl,hAl,hcl⟩:=hown.val
 have hvl:=hln.length
 have hsl:SlAt W B ([]++rows) (.slice Al l.length cl) l.length (l.map i64k) 1:=hown.sl.more fun y hy=>by
   rw [hrows]
   exact List.mem_append_right _ (List.mem_append_right _ (List.mem_append_right _ ((flat_get hci).mem_iff.1 (List.mem_append_left _ (List.mem_append_right _ ((flat_get hoc).mem_iff.1 (List.mem_append_left _ hy)))))))
 have hrl:=ranked_len m g id l
 have hmost:mostP lv<=8:=by unfold mostP;split<;>omega
 have hpr:pruneP m g id lv=((rankedP m g id l).drop (min (rankedP m g id l).length (mostP lv))).foldl (fun g x=>partP g id x lv) g:=by unfold pruneP;rw [hlk]
 refine Spec.eG [rows,im] func169 ntmps169 fun w0=>?_
 refine CW.go uz 1 rfl ?_
 subst hrows;refine CW.gopen (flat_get hci) ?_
 refine CW.go uz 6 rfl (LW.ld one282 ?_)
 refine LW.go uz 1 rfl (LW.mapHit1 (u:=_) rfl rfl keyInt (hom) .t underlying282 underlying3 zero277 (hmg) rfl ?_)
 refine LW.go uz 3 rfl (LW.indexAddrA (lv+1+1) rfl rfl underlying279 ixs279 (by omega) (by omega) (by simp;omega) rfl ?_)
 refine LW.load (v:=.slice Al l.length cl) rfl .t (by rw [List.getElem?_cons_succ,List.getElem?_cons_succ];exact hov) one85 rfl ?_
 refine LW.gclose (rp:=cr p 284 [.int .i64 m,mv]) (chm:=chm) .t .t .t .t .t (flat_get hci) ?_
 refine LW.cT (gra_ranked W B p m g _ im [] id nd (.slice Al l.length cl) l hgr hnd hsl hl1000 hlm) cl236 (Take.both (Take.none _) .n2) ?_
 rintro r22 _ ⟨c22,ho22,hpost⟩;rw [hpost];clear hpost;obtain⟨A22,cp22,rfl,hA22,hcp22⟩:=ho22.val;refine LW.splitA (LW.splitB (LW.splitC ?_))
 refine LW.go uz 9 rfl (LW.eT (gra_most W B lv) cl237 ((Take.none _)) ?_)
 refine LW.min2 (((min (rankedP m g id l).length (mostP lv):Nat):Int)) rfl rfl (by split<;>omega) rfl ?_
 refine LW.cut (min (rankedP m g id l).length (mostP lv)) ((rankedP m g id l).length) (cp22) (some _) none none rfl underlying85 szt3 (fun a hf=>congrArg some (hf.eval rfl)) (fun a hf=>rfl) (fun a hf=>rfl) (.inr ⟨_,rfl⟩) (.inl ⟨rfl,rfl,rfl⟩) (.inl ⟨rfl,rfl⟩) (by omega) (by omega) (by omega) (by omega) rfl ?_
 have hs29:=ho22.cutFrom (W:=W) (B:=B) rfl (Nat.min_le_left (rankedP m g id l).length (mostP lv))
 obtain⟨A29,cp29,he29,hcp29,hl29,hsr29,hA29⟩:=hs29
 rw [he29]
 refine LW.go uz 5 rfl ?_
 refine CW.loopG (fun st:Nat×GraP×List Row=>[(31,iN st.1),(30,.int .i64 (((rankedP m g id l).length-min (rankedP m g id l).length (mostP lv):Nat):Int)),(29,.slice A29 ((rankedP m g id l).length-min (rankedP m g id l).length (mostP lv)) cp29),(0,ptr p),(1,.int .i64 id),(2,iN lv)]) (fun st=>[st.2.2,c22,im]) (fun st=>st.1<=(rankedP m g id l).length-min (rankedP m g id l).length (mostP lv)/\GraR W B im p m st.2.1 st.2.2/\(((rankedP m g id l).drop (min (rankedP m g id l).length (mostP lv))).drop st.1).foldl (fun g x=>partP g id x lv) st.2.1=pruneP m g id lv/\∀ y,(∃ nd,aget g y=some nd)->∃ nd,aget st.2.1 y=some nd) (fun st=>(rankedP m g id l).length-min (rankedP m g id l).length (mostP lv)-st.1) (0,g,[cr p 284 [.int .i64 m,mv]]++(chm++cs.flatten)) (by exact⟨Nat.zero_le _,hgr,by rw [hpr];rfl,fun y h=>h⟩) rfl (by repeat' constructor) ?_
 rintro⟨j,g2,rows2⟩ ⟨hj,hgr2,hx,hk⟩;dsimp only at hj hgr2 hx hk |-
 refine CW.go uz 2 rfl (LW.lss (decide ((j:Int)<(((rankedP m g id l).length-min (rankedP m g id l).length (mostP lv):Nat):Int))) rfl rfl (rfl) rfl ?_)
 refine LW.go uz 3 rfl ?_
 refine CW.cond rfl (fun hc32=>?_) (fun hc32=>?_)
 . have hjn:j<(rankedP m g id l).length-min (rankedP m g id l).length (mostP lv):=oT hc32
   obtain⟨x,hxj,hxd⟩:=drop_at (xs:=(rankedP m g id l).drop (min (rankedP m g id l).length (mostP lv))) (i:=j) (by rw [List.length_drop];exact hjn)
   obtain⟨a,rfl⟩:∃ x,A29=some x:=smA hA29
   rw [hxd,List.foldl_cons] at hx
   have hxk:=hk x (hlm x (ranked_mem (List.mem_of_mem_drop (List.mem_of_getElem? hxj))))
   refine CW.go uz 6 rfl (LW.indexAt rfl rfl underlying85 ixs85 (by omega) (by omega) rfl ?_)
   refine LW.loadRd (v:=.int .i64 x) rfl (hsr29.rd .t) (i64k_at hxj) one3 rfl ?_
   refine LW.go uz 8 rfl (LW.cG (gra_part W B p m g2 rows2 im id x lv hgr2 (hk id ⟨nd,hnd⟩) hxk hlv) cl175 ?_)
   rintro _ rows3 ⟨rfl,hgr3⟩
   refine LW.go uz 4 rfl (LW.ad ((j+1:Int)) ?_)
   exact LW.go uz 2 rfl (NW.mG ((j+1,partP g2 id x lv,rows3)) (by exact⟨⟨by omega,hgr3,hx,fun y h=>part_get.2 (hk y h)⟩,by dsimp only;omega⟩))
 . have hjn:j=(rankedP m g id l).length-min (rankedP m g id l).length (mostP lv):=oF hc32
   rw [List.drop_eq_nil_of_le (by rw [List.length_drop];omega),List.foldl_nil] at hx
   refine CW.go uz 2 rfl (NW.then_exit (NW.go uz 1 rfl ?_))
   refine NW.end0 rfl  ⟨_,⟨rfl,rows2,by rw [<- hx];exact hgr2,rfl⟩,?_⟩
   exact .s2
end
end Go.Proofs.YtnlpccoigflheaaGreatDoor
