/- TGra5 -/
import Derived.Test.YtnlpccoigflheaaGreatDoorTStore
import Derived.Test.YtnlpccoigflheaaGreatDoorFac
namespace Go.Proofs.YtnlpccoigflheaaGreatDoor
open Go.RowKit
open Go.Proofs.Tryz
def TuC:Tbl:=⟨[(281,1,1),(284,1,1)],[],[37,85]⟩
theorem uC:TuC.Ok Tryz.prog:=.of (⟨⟨_,Tryz.underlying37⟩,⟨_,Tryz.underlying85⟩,trivial⟩)
theorem downP_stop (m:Int)(g:GraP)(q:List Int)(lo:Nat):∀ {l:Nat} {at_:List Int},l<=lo->downP m g q lo l at_=at_
 | 0,_,_=>rfl
 | l+1,at_,h=>by simp only [downP];rw [if_neg (by omega)]
theorem downP_go (m:Int)(g:GraP)(q:List Int)(lo:Nat){l:Nat}(at_:List Int)(h:lo<l+1):downP m g q lo (l+1) at_=downP m g q lo l (lookP m g q (l+1) at_ 1):=by simp only [downP];rw [if_pos (by omega)]
theorem lnR5:LnR [.slice none 0 0,.slice none 0 0,.slice none 0 0,.slice none 0 0,.slice none 0 0] (List.replicate 5 []) [[],[],[],[],[]]:=by
 simp only [List.replicate,LnR]
 exact⟨OwnS.nil,OwnS.nil,OwnS.nil,OwnS.nil,OwnS.nil,trivial⟩
section
variable (W:World)(B:Nat)
set_option maxHeartbeats 4000000 in
theorem gra_Put (ht:Tab W B)(p:Nat)(m:Int)(g:GraP)(rows im:List Row)(id:Int)(v:Value)(xs:List Int)(draw:Nat)(hg:GraR W B im p m g rows)(hv:VecAt W B im v xs)(hx:VOk xs)(hid:IdOk id)(hdr:draw<4294967296)(ha:aget g id=none) :
   Spec prog W B 98 [ptr p,.int .i64 id,v,.int .u32 (draw:Int)] (rows++im) (fun r post=>r=.tuple #[]/\∃ rows' ch,GraR W B (ch++im) p m (graPut m g id xs draw) rows'/\post=rows'++(ch++im)):=by
 have hgr:=hg
 obtain⟨mv,chm,es,cs,hom,hns,hrows,hok⟩:=hg
 have hl4:=levelP_le draw
 have hdel:graDel m g id=g:=by unfold graDel;rw [ha]
 have hein:=entry_in hok
 have hok1:=hok.put (v:=xs) (lv:=levelP draw) hid hx hl4 ha
 have hkeep:∀ y,(∃ nd,aget g y=some nd)->∃ nd,aget (aset g id ⟨xs,levelP draw,List.replicate 5 []⟩) y=some nd:=fun y ⟨nd,hn⟩=>by
   rw [aget_aset]
   by_cases he:id=y
   . rw [if_pos he];exact⟨_,rfl⟩
   . rw [if_neg he];exact⟨nd,hn⟩
 have hidk:∃ nd,aget (aset g id ⟨xs,levelP draw,List.replicate 5 []⟩) id=some nd:=⟨_,by rw [aget_aset,if_pos rfl]⟩
 have hput:graPut m g id xs draw=if (entryP g).2<0 then aset g id ⟨xs,levelP draw,List.replicate 5 []⟩ else putDown m id xs (min (levelP draw) (entryP g).2.toNat+1) (aset g id ⟨xs,levelP draw,List.replicate 5 []⟩) (downP m (aset g id ⟨xs,levelP draw,List.replicate 5 []⟩) xs (levelP draw) (entryP g).2.toNat [(entryP g).1]):=by unfold graPut;rw [hdel]
 obtain⟨eid,hei⟩:∃ y,y=(entryP g).1:=⟨_,rfl⟩
 obtain⟨eup,heu⟩:∃ y,y=(entryP g).2:=⟨_,rfl⟩
 rw [<- heu] at hein hput
 rw [<- hei] at hein hput
 refine Spec.eG [rows,im] func98 ntmps98 fun w0=>?_
 refine CW.go uC 4 rfl (LW.pn underlying158 ?_)
 refine LW.go uC 9 rfl (LW.eG (gra_Del_no W B p m g rows im id hgr ha) cl106 ?_)
 refine LW.go uC 5 rfl (LW.cG (gra_Entry W B p m g rows im hgr) cl145 ?_)
 rintro _ _ ⟨rfl,hpost⟩;rw [hpost,<- hei,<- heu];clear hpost
 refine LW.go uC 10 rfl (LW.cG (vect_Copy W B im v xs hv (by have:=hx.1;omega)) cl136 ?_)
 rintro r30 _ ⟨c30,ho30,rfl⟩;obtain⟨A30,cp30,rfl,hA30,hcp30⟩:=ho30.val;refine LW.splitA ?_
 refine LW.go uC 1 rfl (LW.eT (gra_Level W B ht draw hdr) cl167 ((Take.none _)) ?_)
 refine LW.bd [_,_] (#[.slice A30 xs.length cp30,.int .i64 (levelP draw:Int),.slice none 0 0,.slice none 0 0,.slice none 0 0,.slice none 0 0,.slice none 0 0]) ?_
 refine LW.bx ?_
 intro bb34
 refine LW.go uC 4 rfl ?_
 subst hrows;refine CW.front (p:=[cr p 284 [.int .i64 m,mv]]++(chm++cs.flatten)) .t (CW.splitA (CW.splitB ?_))
 refine CW.go uC 4 rfl (LW.ld one282 ?_)
 refine LW.go uC 2 rfl (LW.mapSetG rfl rfl rfl keyInt (hom) .t underlying282 underlying3 ?_)
 intro chm2 hom2;rw [mset_new (hns.miss ha)] at hom2
 refine LW.go uC 4 rfl ?_
 have hnr:NodeR W B (c30++im) bb34 ⟨xs,levelP draw,List.replicate 5 []⟩ ([cr bb34 281 (.slice A30 xs.length cp30::.int .i64 (levelP draw:Int)::[.slice none 0 0,.slice none 0 0,.slice none 0 0,.slice none 0 0,.slice none 0 0])]++([[],[],[],[],[]]:List (List Row)).flatten):=⟨_,_,[[],[],[],[],[]],ho30.vec.left,lnR5,by simp,rfl⟩
 have hg1:GraR W B (c30++im) p m (aset g id ⟨xs,levelP draw,List.replicate 5 []⟩) ([cr p 284 [.int .i64 m,mv]]++(chm2++(cs++[[cr bb34 281 (.slice A30 xs.length cp30::.int .i64 (levelP draw:Int)::[.slice none 0 0,.slice none 0 0,.slice none 0 0,.slice none 0 0,.slice none 0 0])]++([[],[],[],[],[]]:List (List Row)).flatten]).flatten)):=⟨mv,chm2,es++[(id,bb34)],_,by unfold esV;rw [List.map_append];exact hom2,by rw [aset_new ha];exact nodes_app hnr (hns.more fun y hy=>List.mem_append_right _ hy),rfl,hok1⟩
 refine CW.front (p:=im) .t (CW.front (p:=c30) .t (CW.unfoc (a:=c30++im) (List.Perm.refl _) ?_))
 refine CW.front (p:=[cr bb34 281 (.slice A30 xs.length cp30::.int .i64 (levelP draw:Int)::[.slice none 0 0,.slice none 0 0,.slice none 0 0,.slice none 0 0,.slice none 0 0])]) .t (CW.front (p:=cs.flatten) .t (CW.unfoc (a:=(cs++[[cr bb34 281 (.slice A30 xs.length cp30::.int .i64 (levelP draw:Int)::[.slice none 0 0,.slice none 0 0,.slice none 0 0,.slice none 0 0,.slice none 0 0])]++([[],[],[],[],[]]:List (List Row)).flatten]).flatten) (by rw [List.flatten_append];exact List.Perm.of_eq rfl) ?_))
 refine CW.front (p:=chm2) .t (CW.unfoc (List.Perm.refl _) (CW.front (p:=[cr p 284 [.int .i64 m,mv]]) .t (CW.unfoc (List.Perm.refl _) ?_)))
 have hvr:VecAt W B (c30++im) v xs:=hv.right
 have hnsrc:∀ j x,[Value.slice A30 xs.length cp30,.int .i64 (levelP draw:Int),.slice none 0 0,.slice none 0 0,.slice none 0 0,.slice none 0 0,.slice none 0 0][j]?=some x->[Value.slice A30 xs.length cp30,.int .i64 (levelP draw:Int),.slice none 0 0,.slice none 0 0,.slice none 0 0,.slice none 0 0,.slice none 0 0][0+j]?=some x:=fun j x h=>by rw [Nat.zero_add];exact h
 have hsrc1:Src W B ([cr p 284 [.int .i64 m,mv]]++(chm2++(cs++[[cr bb34 281 (.slice A30 xs.length cp30::.int .i64 (levelP draw:Int)::[.slice none 0 0,.slice none 0 0,.slice none 0 0,.slice none 0 0,.slice none 0 0])]++([[],[],[],[],[]]:List (List Row)).flatten]).flatten)) (some ⟨bb34,0,none⟩) [.slice A30 xs.length cp30,.int .i64 (levelP draw:Int),.slice none 0 0,.slice none 0 0,.slice none 0 0,.slice none 0 0,.slice none 0 0]:=(Src.row hnsrc).more' fun y hy=>List.mem_append_right _ (List.mem_append_right _ (by rw [List.flatten_append];exact List.mem_append_right _ (by simpa using hy)))
 generalize hR:([cr p 284 [.int .i64 m,mv]]++(chm2++(cs++[[cr bb34 281 (.slice A30 xs.length cp30::.int .i64 (levelP draw:Int)::[.slice none 0 0,.slice none 0 0,.slice none 0 0,.slice none 0 0,.slice none 0 0])]++([[],[],[],[],[]]:List (List Row)).flatten]).flatten))=R at hg1 hsrc1 |-
 clear hR hnr hom2 hnsrc
 generalize aset g id ⟨xs,levelP draw,List.replicate 5 []⟩=g1 at hg1 hok1 hkeep hidk hput
 refine CW.go uC 2 rfl ?_
 by_cases heup:eup<0
 . refine LW.lssT ?_
   refine LW.go uC 5 rfl ?_
   refine NW.ret0 rfl  ⟨_,⟨rfl,R,c30,by rw [hput,if_pos heup];exact hg1,rfl⟩,?_⟩
   exact .s2
 . refine LW.lssF ?_
   refine LW.go uC 6 rfl ?_
   obtain⟨hent,he0,he4⟩:=hein.resolve_left (by omega)
   rw [if_neg heup] at hput
   obtain⟨up,rfl⟩:∃ k:Nat,eup=(k:Int):=⟨eup.toNat,(Int.toNat_of_nonneg he0).symm⟩
   rw [Int.toNat_natCast] at hput
   refine CW.go uC 2 rfl (LW.bs [_] underlying85 info3 ?_)
   intro bs44
   refine LW.go uC 11 rfl ?_
   refine CW.loopG (fun st:Nat×List Int×Value×List Row=>[(12,iN st.1),(11,st.2.2.1),(9,iN up),(10,ptr bb34),(0,ptr p),(1,.int .i64 id),(2,v)]) (fun st=>[st.2.2.2,R,c30++im]) (fun st=>st.1<=up/\SlAt W B st.2.2.2 st.2.2.1 st.2.1.length (st.2.1.map i64k) 1/\st.2.1.length<=1000/\(∀ x∈st.2.1,∃ nd,aget g1 x=some nd)/\downP m g1 xs (levelP draw) st.1 st.2.1=downP m g1 xs (levelP draw) up [eid]) (fun st=>st.1) (up,[eid],.slice (sA bs44) 1 1,[cr bs44 3 [.int .i64 eid]]) (by exact⟨Nat.le_refl _,(OwnS.row (t:=3) (sz:=1) (m:=1) (xs:=[.int .i64 eid]) rfl).sl,by simp,fun x hx=>(by simp at hx;subst hx;exact hkeep _ hent),rfl⟩) rfl (by repeat' constructor) ?_
   rintro⟨l,at1,av,ac⟩ ⟨hlu,hsa,hal,ham,hdn⟩;dsimp only at hlu hsa hal ham hdn |-
   refine CW.go uC 7 rfl (LW.loadRd (a:=⟨bb34,0,none⟩) (j:=1) (v:=.int .i64 (levelP draw:Int)) rfl (hsrc1.rd .t) rfl one3 rfl ?_)
   refine LW.gtr (decide ((l:Int)>(levelP draw:Int))) rfl rfl (rfl) rfl ?_
   refine LW.go uC 2 rfl ?_
   refine CW.cond rfl (fun hc51=>?_) (fun hc51=>?_)
   . have hgt:levelP draw<l:=oT hc51
     obtain⟨l,rfl⟩:∃ k,l=k+1:=⟨l-1,by omega⟩
     rw [downP_go m g1 xs (levelP draw) at1 hgt] at hdn
     refine CW.go uC 9 rfl (LW.cT (gra_look W B p m g1 R (c30++im) ac v av xs (l+1) 1 at1 hg1 hvr hx (by omega) (by decide) hsa hal ham) cl146 .n3 ?_)
     rintro r58 _ ⟨c58,ho58,hm58,hn58,hpost⟩;rw [hpost];clear hpost;refine LW.splitA (LW.splitB (LW.splitC ?_))
     refine LW.go uC 6 rfl (LW.sub ((l:Int)) rfl rfl w4 rfl ?_)
     exact LW.go uC 2 rfl (NW.mG ((l,lookP m g1 xs (l+1) at1 1,r58,c58)) (by exact⟨⟨by dsimp only;omega,ho58.sl,by dsimp only;omega,hm58,hdn⟩,by dsimp only;omega⟩))
   . have hgt:l<=levelP draw:=oF hc51
     rw [downP_stop m g1 xs (levelP draw) hgt] at hdn
     rw [<- hdn] at hput
     refine CW.go uC 2 rfl (NW.then_exit (NW.go uC 7 rfl (LW.loadRd (a:=⟨bb34,0,none⟩) (j:=1) (v:=.int .i64 (levelP draw:Int)) rfl (hsrc1.rd .t) rfl one3 rfl ?_)))
     refine LW.go uC 1 rfl (LW.min2 (((min (levelP draw) up:Nat):Int)) rfl rfl (by split<;>omega) rfl ?_)
     refine LW.go uC 4 rfl ?_
     refine CW.loopG (fun st:Nat×Int×GraP×List Int×Value×List Row×List Row=>[(13,.int .i64 st.2.1),(11,st.2.2.2.2.1),(0,ptr p),(1,.int .i64 id),(2,v)]) (fun st=>[st.2.2.2.2.2.1,st.2.2.2.2.2.2,c30++im]) (fun st=>st.1<=5/\st.2.1=(st.1:Int)-1/\GraR W B (c30++im) p m st.2.2.1 st.2.2.2.2.2.2/\SlAt W B st.2.2.2.2.2.1 st.2.2.2.2.1 st.2.2.2.1.length (st.2.2.2.1.map i64k) 1/\st.2.2.2.1.length<=1000/\(∀ x∈st.2.2.2.1,∃ nd,aget st.2.2.1 x=some nd)/\(∃ nd,aget st.2.2.1 id=some nd)/\putDown m id xs st.1 st.2.2.1 st.2.2.2.1=graPut m g id xs draw) (fun st=>st.1) (min (levelP draw) up+1,((min (levelP draw) up:Nat):Int),g1,at1,av,ac,R) (by exact⟨by dsimp only;omega,by dsimp only;omega,hg1,hsa,hal,ham,hidk,hput.symm⟩) rfl (by repeat' constructor) ?_
     rintro⟨cnt,z,g3,at3,av3,ac3,R3⟩ ⟨hc5,hz,hg3,hsa3,hal3,ham3,hidk3,hpd⟩;dsimp only at hc5 hz hg3 hsa3 hal3 ham3 hidk3 hpd |-
     refine CW.go uC 4 rfl (LW.geq (decide (z>=0)) rfl rfl (rfl) rfl ?_)
     refine LW.go uC 2 rfl ?_
     refine CW.cond rfl (fun hc66=>?_) (fun hc66=>?_)
     . have hz0:0<=z:=of_decide_eq_true hc66
       obtain⟨l,rfl⟩:∃ k,cnt=k+1:=⟨cnt-1,by omega⟩
       obtain rfl:z=(l:Int):=by omega
       simp only [putDown] at hpd
       have hlook:=gra_look W B p m g3 R3 (c30++im) ac3 v av3 xs l 8 at3 hg3 hvr hx (by omega) (by decide) hsa3 hal3 ham3
       generalize lookP m g3 xs l at3 8=at4 at hlook hpd
       refine CW.go uC 10 rfl (LW.cT (hlook) cl146 .n3 ?_)
       rintro r73 _ ⟨c73,ho73,hm73,hn73,hpost⟩;rw [hpost];clear hpost hlook;obtain⟨A4,cp4,rfl,hA4,hcp4⟩:=ho73.val;refine LW.splitA (LW.splitB (LW.splitC ?_))
       refine LW.go uC 8 rfl (LW.min2 (((min at4.length 4:Nat):Int)) rfl rfl (by split<;>omega) rfl ?_)
       refine LW.cutTo (min at4.length 4) rfl rfl underlying85 szt3 (by omega) (by omega) rfl ?_
       refine LW.go uC 5 rfl ?_
       have hnear:SlAt W B c73 (.slice A4 (min at4.length 4) cp4) (at4.take (min at4.length 4)).length ((at4.take (min at4.length 4)).map i64k) 1:=by have h9:=(ho73.cutTo (m':=min at4.length 4) (by omega)).sl (W:=W) (B:=B);rw [Nat.mul_one,<- List.map_take] at h9;rw [show (at4.take (min at4.length 4)).length=min at4.length 4 by rw [List.length_take];omega];exact h9
       have hnm:∀ x∈at4.take (min at4.length 4),∃ nd,aget g3 x=some nd:=fun x hx=>hm73 x (List.mem_of_mem_take hx)
       have hnl:(at4.take (min at4.length 4)).length=min at4.length 4:=by rw [List.length_take];omega
       generalize at4.take (min at4.length 4)=near at hnear hnm hnl hpd
       rw [<- hnl]
       rw [<- hnl] at hnear
       obtain⟨An,cpn,hne,hcpn,hln,hsn,hAn⟩:=hnear
       injection hne with e1 e2 e3
       subst e1 e3
       refine CW.go uC 7 rfl ?_
       refine CW.loopG (fun st:Nat×GraP×List Row=>[(81,iN st.1),(80,iN near.length),(79,.slice A4 near.length cp4),(14,.slice A4 near.length cp4),(13,iN l),(11,.slice A4 at4.length cp4),(0,ptr p),(1,.int .i64 id),(2,v)]) (fun st=>[st.2.2,c73,c30++im]) (fun st=>st.1<=near.length/\GraR W B (c30++im) p m st.2.1 st.2.2/\(near.drop st.1).foldl (fun g y=>linkP g id y l) st.2.1=near.foldl (fun g y=>linkP g id y l) g3/\∀ y,(∃ nd,aget g3 y=some nd)->∃ nd,aget st.2.1 y=some nd) (fun st=>near.length-st.1) (0,g3,R3) (by exact⟨Nat.zero_le _,hg3,rfl,fun y h=>h⟩) rfl (by repeat' constructor) ?_
       rintro⟨j,g5,R5⟩ ⟨hj,hg5,hx5,hk5⟩;dsimp only at hj hg5 hx5 hk5 |-
       refine CW.go uC 2 rfl (LW.lss (decide ((j:Int)<(near.length:Int))) rfl rfl (rfl) rfl ?_)
       refine LW.go uC 3 rfl ?_
       refine CW.cond rfl (fun hc82=>?_) (fun hc82=>?_)
       . have hjn:j<near.length:=oT hc82
         obtain⟨a,rfl⟩:∃ x,A4=some x:=smA hAn
         obtain⟨y,hyj,hyd⟩:=drop_at hjn
         rw [hyd,List.foldl_cons] at hx5
         refine CW.go uC 6 rfl (LW.indexAt rfl rfl underlying85 ixs85 (by omega) (by omega) rfl ?_)
         refine LW.loadRd (v:=.int .i64 y) rfl (hsn.rd .t) (i64k_at hyj) one3 rfl ?_
         refine LW.go uC 8 rfl (LW.cG (gra_link W B p m g5 R5 (c30++im) id y l hg5 (hk5 id hidk3) (hk5 y (hnm y (List.mem_of_getElem? hyj))) (by omega)) cl168 ?_)
         rintro _ R6 ⟨rfl,hg6⟩
         refine LW.go uC 4 rfl (LW.ad ((j+1:Int)) ?_)
         exact LW.go uC 2 rfl (NW.mG ((j+1,linkP g5 id y l,R6)) (by exact⟨⟨by omega,hg6,hx5,fun y h=>link_get.2 (hk5 y h)⟩,by dsimp only;omega⟩))
       . have hjn:j=near.length:=oF hc82
         rw [hjn,List.drop_length,List.foldl_nil] at hx5
         have hpd6:=hpd
         unfold putLv at hpd6
         rw [<- hx5] at hpd6
         refine CW.go uC 2 rfl (NW.then_exit (NW.go uC 10 rfl ?_))
         refine CW.loopG (fun st:Nat×GraP×List Row=>[(93,iN st.1),(92,iN near.length),(91,.slice A4 near.length cp4),(13,iN l),(11,.slice A4 at4.length cp4),(0,ptr p),(1,.int .i64 id),(2,v)]) (fun st=>[st.2.2,c73,c30++im]) (fun st=>st.1<=near.length/\GraR W B (c30++im) p m st.2.1 st.2.2/\(near.drop st.1).foldl (fun g y=>pruneP m g y l) st.2.1=near.foldl (fun g y=>pruneP m g y l) g5/\∀ y,(∃ nd,aget g3 y=some nd)->∃ nd,aget st.2.1 y=some nd) (fun st=>near.length-st.1) (0,g5,R5) (by exact⟨Nat.zero_le _,hg5,rfl,hk5⟩) rfl (by repeat' constructor) ?_
         rintro⟨j7,g7,R7⟩ ⟨hj7,hg7,hx7,hk7⟩;dsimp only at hj7 hg7 hx7 hk7 |-
         refine CW.go uC 2 rfl (LW.lss (decide ((j7:Int)<(near.length:Int))) rfl rfl (rfl) rfl ?_)
         refine LW.go uC 3 rfl ?_
         refine CW.cond rfl (fun hc94=>?_) (fun hc94=>?_)
         . have hjn7:j7<near.length:=oT hc94
           obtain⟨a,rfl⟩:∃ x,A4=some x:=smA hAn
           obtain⟨y7,hyj7,hyd7⟩:=drop_at hjn7
           rw [hyd7,List.foldl_cons] at hx7
           refine CW.go uC 6 rfl (LW.indexAt rfl rfl underlying85 ixs85 (by omega) (by omega) rfl ?_)
           refine LW.loadRd (v:=.int .i64 y7) rfl (hsn.rd .t) (i64k_at hyj7) one3 rfl ?_
           refine LW.go uC 7 rfl (LW.cT (gra_prune W B p m g7 R7 (c30++im) y7 l hg7 (hk7 y7 (hnm y7 (List.mem_of_getElem? hyj7))) (by omega)) cl169 .n2 ?_)
           rintro _ _ ⟨rfl,R8,hg8,hpost⟩;rw [hpost];clear hpost;refine LW.splitA ?_
           refine LW.go uC 4 rfl (LW.ad ((j7+1:Int)) ?_)
           exact LW.go uC 2 rfl (NW.mG ((j7+1,pruneP m g7 y7 l,R8)) (by exact⟨⟨by omega,hg8,hx7,fun y h=>prune_get.2 (hk7 y h)⟩,by dsimp only;omega⟩))
         . have hjn7:j7=near.length:=oF hc94
           rw [hjn7,List.drop_length,List.foldl_nil] at hx7
           rw [<- hx7] at hpd6
           refine CW.go uC 2 rfl (NW.then_exit (NW.go uC 5 rfl (LW.sub ((l:Int)-1) rfl rfl w6 rfl ?_)))
           exact LW.go uC 2 rfl (NW.mG ((l,(l:Int)-1,g7,at4,.slice A4 at4.length cp4,c73,R7)) (by exact⟨⟨by omega,rfl,hg7,ho73.sl,by dsimp only;omega,fun x hx=>hk7 x (hm73 x hx),hk7 id hidk3,hpd6⟩,by dsimp only;omega⟩))
     . have hz0:z<0:=oF hc66
       obtain rfl:cnt=0:=by omega
       simp only [putDown] at hpd
       refine CW.go uC 2 rfl (NW.then_exit (NW.go uC 1 rfl ?_))
       refine NW.end0 rfl  ⟨_,⟨rfl,R3,c30,by rw [<- hpd];exact hg3,rfl⟩,?_⟩
       exact .s2
set_option maxHeartbeats 1000000 in
theorem gra_Search (p:Nat)(m:Int)(g:GraP)(rows im:List Row)(qv:Value)(q:List Int)(k:Nat)(hg:GraR W B im p m g rows)(hqv:VecAt W B im qv q)(hq:VOk q)(hk:k<=1000) :
   Spec prog W B 77 [ptr p,qv,iN k] (rows++im) (fun r post=>∃ ch,OwnS 72 2 r (graS m g q k).length (hitsC (graS m g q k)) ch/\post=ch++(rows++im)):=by
 have hok:=hg.ok
 have hein:=entry_in hok
 have hse:graS m g q k=if (entryP g).2<0\/k=0 then [] else ((lookP m g q 0 (downP m g q 0 (entryP g).2.toNat [(entryP g).1]) (max 8 k)).map (g.hit m q)).take (min ((lookP m g q 0 (downP m g q 0 (entryP g).2.toNat [(entryP g).1]) (max 8 k)).map (g.hit m q)).length k):=rfl
 obtain⟨eid,hei⟩:∃ y,y=(entryP g).1:=⟨_,rfl⟩
 obtain⟨eup,heu⟩:∃ y,y=(entryP g).2:=⟨_,rfl⟩
 rw [<- heu,<- hei] at hein hse
 by_cases hno:eup<0\/k=0
 . rw [if_pos hno] at hse
   rw [hse]
   refine Spec.eG [rows,im] func77 ntmps77 fun w0=>?_
   refine CW.go uC 8 rfl (LW.cG (gra_Entry W B p m g rows im hg) cl145 ?_)
   rintro _ _ ⟨rfl,hpost⟩;rw [hpost,<- hei,<- heu];clear hpost
   refine LW.go uC 11 rfl ?_
   by_cases heup:eup<0
   . refine LW.lssT ?_
     refine LW.go uC 14 rfl ?_
     refine NW.r1 ⟨_,⟨[],OwnS.nil,rfl⟩,?_⟩
     simp only [List.nil_append];exact .s2
   . refine LW.lssF ?_
     refine LW.go uC 4 rfl (LW.leqT ?_)
     refine LW.go uC 11 rfl ?_
     refine NW.r1 ⟨_,⟨[],OwnS.nil,rfl⟩,?_⟩
     simp only [List.nil_append];exact .s2
 . rw [if_neg hno] at hse
   obtain⟨hent,he0,he4⟩:=hein.resolve_left (by omega)
   obtain⟨up,rfl⟩:∃ k:Nat,eup=(k:Int):=⟨eup.toNat,(Int.toNat_of_nonneg he0).symm⟩
   rw [Int.toNat_natCast] at hse
   refine Spec.eG [rows,im] func77 ntmps77 fun w0=>?_
   refine CW.go uC 8 rfl (LW.cG (gra_Entry W B p m g rows im hg) cl145 ?_)
   rintro _ _ ⟨rfl,hpost⟩;rw [hpost,<- hei,<- heu];clear hpost
   refine LW.go uC 11 rfl (LW.lssF ?_)
   refine LW.go uC 4 rfl (LW.leqF ?_)
   refine LW.go uC 9 rfl (LW.bs [_] underlying85 info3 ?_)
   intro bs26
   refine LW.go uC 11 rfl ?_
   refine CW.loopG (fun st:Nat×List Int×Value×List Row=>[(10,iN st.1),(9,st.2.2.1),(0,ptr p),(1,qv),(2,iN k)]) (fun st=>[st.2.2.2,rows,im]) (fun st=>st.1<=up/\SlAt W B st.2.2.2 st.2.2.1 st.2.1.length (st.2.1.map i64k) 1/\st.2.1.length<=1000/\(∀ x∈st.2.1,∃ nd,aget g x=some nd)/\downP m g q 0 st.1 st.2.1=downP m g q 0 up [eid]) (fun st=>st.1) (up,[eid],.slice (sA bs26) 1 1,[cr bs26 3 [.int .i64 eid]]) (by exact⟨Nat.le_refl _,(OwnS.row (t:=3) (sz:=1) (m:=1) (xs:=[.int .i64 eid]) rfl).sl,by simp,fun x hx=>(by simp at hx;subst hx;exact hent),rfl⟩) rfl (by repeat' constructor) ?_
   rintro⟨l,at1,av,ac⟩ ⟨hlu,hsa,hal,ham,hdn⟩;dsimp only at hlu hsa hal ham hdn |-
   refine CW.go uC 4 rfl (LW.gtr (decide ((l:Int)>0)) rfl rfl (rfl) rfl ?_)
   refine LW.go uC 2 rfl ?_
   refine CW.cond rfl (fun hc29=>?_) (fun hc29=>?_)
   . have hgt:0<l:=oT hc29
     obtain⟨l,rfl⟩:∃ k,l=k+1:=⟨l-1,by omega⟩
     rw [downP_go m g q 0 at1 hgt] at hdn
     refine CW.go uC 9 rfl (LW.cT (gra_look W B p m g rows im ac qv av q (l+1) 1 at1 hg hqv hq (by omega) (by decide) hsa hal ham) cl146 .n3 ?_)
     rintro r36 _ ⟨c36,ho36,hm36,hn36,hpost⟩;rw [hpost];clear hpost;refine LW.splitA (LW.splitB (LW.splitC ?_))
     refine LW.go uC 6 rfl (LW.sub ((l:Int)) rfl rfl w4 rfl ?_)
     exact LW.go uC 2 rfl (NW.mG ((l,lookP m g q (l+1) at1 1,r36,c36)) (by exact⟨⟨by dsimp only;omega,ho36.sl,by dsimp only;omega,hm36,hdn⟩,by dsimp only;omega⟩))
   . have hgt:l=0:=oF hc29
     subst hgt
     simp only [downP] at hdn
     rw [<- hdn] at hse
     have hlook:=gra_look W B p m g rows im ac qv av q 0 (max 8 k) at1 hg hqv hq (by omega) (by omega) hsa hal ham
     generalize lookP m g q 0 at1 (max 8 k)=at4 at hlook hse
     refine CW.go uC 2 rfl (NW.then_exit (NW.go uC 14 rfl (LW.max2 ((max 8 k:Nat):Int) rfl rfl (by split<;>omega) rfl ?_)))
     refine LW.cT (hlook) cl146 .n3 ?_
     rintro r42 _ ⟨c42,ho42,hm42,hn42,hpost⟩;rw [hpost];clear hpost hlook;obtain⟨A4,cp4,rfl,hA4,hcp4⟩:=ho42.val;refine LW.splitA (LW.splitB (LW.splitC ?_))
     have hs4:=ho42.src (W:=W) (B:=B)
     refine LW.go uC 5 rfl ?_
     refine CW.loopG (fun st:Nat×Value×List Row=>[(44,iN st.1),(43,iN at4.length),(42,.slice A4 at4.length cp4),(11,st.2.1),(0,ptr p),(1,qv),(2,iN k)]) (fun st=>[st.2.2,c42,rows,im]) (fun st=>st.1<=at4.length/\OwnS 72 2 st.2.1 st.1 (hitsC ((at4.take st.1).map (g.hit m q))) st.2.2) (fun st=>at4.length-st.1) (0,.slice none 0 0,[]) (by exact⟨Nat.zero_le _,OwnS.nil⟩) rfl (by repeat' constructor) ?_
     rintro⟨i,v,ch⟩ ⟨hi,ho⟩;dsimp only at hi ho |-
     refine CW.go uC 2 rfl (LW.lss (decide ((i:Int)<(at4.length:Int))) rfl rfl (rfl) rfl ?_)
     refine LW.go uC 3 rfl ?_
     refine CW.cond rfl (fun hc45=>?_) (fun hc45=>?_)
     . have hin:i<at4.length:=oT hc45
       obtain⟨a,rfl⟩:∃ x,A4=some x:=smA hA4
       obtain⟨x,hxi,hxd⟩:=drop_at hin
       obtain⟨ndx,hndx⟩:=hm42 x (List.mem_of_getElem? hxi)
       refine CW.go uC 6 rfl (LW.indexAt rfl rfl underlying85 ixs85 (by omega) (by omega) rfl ?_)
       refine LW.loadRd (v:=.int .i64 x) rfl (hs4.rd .t) (i64k_at hxi) one3 rfl ?_
       refine LW.go uC 8 rfl (LW.eT (gra_hit W B p m g rows im qv q x ndx hg hqv hq hndx) cl147 .n2 ?_)
       refine LW.splitA ?_
       refine LW.buildSliceA [hitC (g.hit m q x)] ⟨rfl,trivial⟩ rfl (by intro v hv;simp at hv;subst hv;rfl) (by decide) underlying37 info72 rfl (by decide) (by decide) rfl ?_
       intro bs53
       refine LW.append (hitC (g.hit m q x)) rfl rfl underlying37 underlying37 (.inr ⟨_,rfl⟩) info72 rfl (ho) .t (fun _=>by obtain⟨A7,cp7,he7,_⟩:=ho.val;exact lenOf_slice _ _ _ _) (first_rd (RdAt.row .t (fun j v hj=>by simpa using hj)) rfl (fun h=>by cases h)) (rfl) (hitC_one _) (by omega) (by omega) rfl ?_
       intro v' ch' ho'
       refine LW.go uC 5 rfl (LW.ad ((i+1:Int)) ?_)
       exact LW.go uC 2 rfl (NW.mG ((i+1,v',ch')) (by exact⟨⟨by omega,by dsimp only;rw [hits_snoc m g q hxi,hitsC_app];exact ho'⟩,by dsimp only;omega⟩))
     . have hin:i=at4.length:=oF hc45
       rw [hin,List.take_length] at ho
       obtain⟨Ah,cph,rfl,hAh,hcph⟩:=ho.val
       refine CW.go uC 2 rfl (NW.then_exit (NW.go uC 8 rfl (LW.min2 (((min at4.length k:Nat):Int)) rfl rfl (by split<;>omega) rfl ?_)))
       refine LW.cutTo (min at4.length k) rfl rfl underlying37 szt72 (by omega) (by omega) rfl ?_
       refine LW.go uC 4 rfl ?_
       refine NW.ret1 rfl rfl ⟨_,⟨ch,by rw [hse,List.length_map];have h9:=ho.cutTo (m':=min at4.length k) (by omega);rw [hitsC_take] at h9;rw [show ((at4.map (g.hit m q)).take (min at4.length k)).length=min at4.length k by simp];exact h9,rfl⟩,?_⟩
       exact .s3
end
end Go.Proofs.YtnlpccoigflheaaGreatDoor
