/- Dev3 BinDef Bin1 -/
import Derived.Test.YtnlpccoigflheaaGreatDoorDev2
import Derived.Test.YtnlpccoigflheaaGreatDoorProg
import Derived.Test.YtnlpccoigflheaaGreatDoorFac
namespace Go.Proofs.YtnlpccoigflheaaGreatDoor
open Go.RowKit
open Tryz
def Tuj:Tbl:=⟨[(77,0,0),(77,2,2),(99,0,0)],[],[23,65,75,85,166]⟩
theorem uj:Tuj.Ok Tryz.prog:=.of (⟨⟨_,Tryz.underlying23⟩,⟨_,Tryz.underlying65⟩,⟨_,Tryz.underlying75⟩,⟨_,Tryz.underlying85⟩,⟨_,Tryz.underlying166⟩,trivial⟩)
section
variable (W:World)(B:Nat)
theorem dev_Write_ok (p bn bw bl n:Nat)(s:DevS)(hs:s.Ok n)(i:Nat)(hi:i<n)(hd:s.down=false)(src:List Row)(A:Option Addr)(cp:Nat)(b:List UInt8)(hb:b.length=64)(hsrc:Src W B src A (b.map u8v)) :
  Spec prog W B 90 [ptr p,iN i,.slice A 64 cp] (src++devC p bn bw bl n s) (fun v post=>v=.int .i64 0/\post=src++devC p bn bw bl n (s.put i b).burn):=by
 have hin:isB n (i:Int)=true:=by simp [isB,hi]
 have hA:A=none->64=0:=fun h0=>by
  subst h0
  rcases hsrc with h | ⟨a,h,_⟩
  . have:=congrArg List.length h;simp [hb] at this
  . cases h
 have hml:(s.loose.map Value.bool).set i (.bool true)=(s.put i b).loose.map Value.bool:=by simp [DevS.put,List.map_set]
 refine Spec.enterG (src::[[cr p 77 (devHead bn bw bl n s)],[cr bn 220 (secV s.now)],[cr bw 220 (secV s.was)],[cr bl 4 (s.loose.map .bool)]]) func90 rfl ntmps90 rfl (by first | rfl | simp [devC]) (fun w0=>?_)
 refine CW.go uj 10 rfl (LW.eT (dev_Down _ _ p bn bw bl n s) cl158 ((Take.four .t .t .t .t)) ?_)
 rw [hd];refine LW.open4 ?_
 refine LW.go uj 8 rfl (LW.eT (dev_is _ _ p bn bw bl n s i) cl157 ((Take.four .t .t .t .t)) ?_)
 rw [hin];refine LW.open4 ?_
 refine LW.not (false) rfl (rfl) rfl ?_
 refine LW.go uj 8 rfl (LW.neqF ?_)
 refine LW.go uj 12 rfl (LW.ld one75 ?_)
 refine LW.go uj 1 rfl (LW.indexAddr (i*64) rfl rfl underlying75 ixs75 (by omega) (by omega) (by simp) rfl ?_)
 refine LW.cutArr rfl underlying220 szt5 rfl ?_
 refine LW.go uj 1 rfl (LW.copy (b.map u8v) (secV (s.now.set i b)) rfl rfl underlying65 szt5 .t (hsrc.rd .t) (by simp [hb]) (hA) (by rw [secV_len hs.now,List.length_map,hb];omega) (u8vs_one _) (secV_set hs.now hi hb rfl (by rw [List.length_map,hb])) rfl ?_)
 refine LW.go uj 7 rfl (LW.ld one23 ?_)
 refine LW.go uj 1 rfl (LW.indexAddr (i) rfl rfl underlying23 ixs23 (by omega) (by omega) (by simp) rfl ?_)
 refine LW.store rfl rfl .t (by rw [List.length_map,hs.loose];exact hi) sz4 (rfl) ?_
 rw [hml]
 refine LW.go uj 5 rfl (LW.eT (dev_burns _ _ p bn bw bl n (s.put i b) (hs.put hb) hd) cl159 ((Take.four .t .t .t .t)) ?_)
 refine LW.go uj 8 rfl ?_
 refine NW.r1 ⟨_,⟨rfl,rfl⟩,?_⟩
 exact Sub.take (p:=src) .t (Sub.one .t)
theorem dev_Write_no (p bn bw bl n:Nat)(s:DevS)(i:Int)(A:Option Addr)(l cp:Nat)(he:s.err n i l≠0) :
   Spec prog W B 90 [ptr p,.int .i64 i,.slice A l cp] (devC p bn bw bl n s) (fun v post=>v=.int .i64 (s.err n i l)/\post=devC p bn bw bl n s):=by
 unfold DevS.err at he |-
 cases hd:s.down
 . cases hin:isB n i
   . simp only [Bool.false_eq_true,if_false]
     refine Spec.enterG ([[cr p 77 (devHead bn bw bl n s)],[cr bn 220 (secV s.now)],[cr bw 220 (secV s.was)],[cr bl 4 (s.loose.map .bool)]]) func90 rfl ntmps90 rfl (by first | rfl | simp [devC]) (fun w0=>?_)
     refine CW.go uj 10 rfl (LW.eT (dev_Down _ _ p bn bw bl n s) cl158 ((Take.four .t .t .t .t)) ?_)
     rw [hd];refine LW.open4 ?_
     refine LW.go uj 8 rfl (LW.eT (dev_is _ _ p bn bw bl n s i) cl157 ((Take.four .t .t .t .t)) ?_)
     rw [hin];refine LW.open4 ?_
     refine LW.not (true) rfl (rfl) rfl ?_
     refine LW.go uj 12 rfl ?_
     refine NW.r1 ⟨_,⟨rfl,rfl⟩,?_⟩
     exact Sub.four .t .t .t .t
   . simp only [hd,hin,Bool.false_eq_true,if_false,if_true] at he |-
     have hl:l≠64:=fun h=>by simp [h] at he
     rw [if_neg hl]
     refine Spec.enterG ([[cr p 77 (devHead bn bw bl n s)],[cr bn 220 (secV s.now)],[cr bw 220 (secV s.was)],[cr bl 4 (s.loose.map .bool)]]) func90 rfl ntmps90 rfl (by first | rfl | simp [devC]) (fun w0=>?_)
     refine CW.go uj 10 rfl (LW.eT (dev_Down _ _ p bn bw bl n s) cl158 ((Take.four .t .t .t .t)) ?_)
     rw [hd];refine LW.open4 ?_
     refine LW.go uj 8 rfl (LW.eT (dev_is _ _ p bn bw bl n s i) cl157 ((Take.four .t .t .t .t)) ?_)
     rw [hin];refine LW.open4 ?_
     refine LW.not (false) rfl (rfl) rfl ?_
     refine LW.go uj 8 rfl (LW.neqT ?_)
     refine LW.go uj 12 rfl ?_
     refine NW.r1 ⟨_,⟨rfl,rfl⟩,?_⟩
     exact Sub.four .t .t .t .t
 . simp only [if_true]
   refine Spec.enterG ([[cr p 77 (devHead bn bw bl n s)],[cr bn 220 (secV s.now)],[cr bw 220 (secV s.was)],[cr bl 4 (s.loose.map .bool)]]) func90 rfl ntmps90 rfl (by first | rfl | simp [devC]) (fun w0=>?_)
   refine CW.go uj 10 rfl (LW.eT (dev_Down _ _ p bn bw bl n s) cl158 ((Take.four .t .t .t .t)) ?_)
   rw [hd];refine LW.open4 ?_
   refine LW.go uj 12 rfl ?_
   refine NW.r1 ⟨_,⟨rfl,rfl⟩,?_⟩
   exact Sub.four .t .t .t .t
theorem dev_Flush (p bn bw bl n:Nat)(s:DevS)(hs:s.Ok n) :
   Spec prog W B 91 [ptr p] (devC p bn bw bl n s) (fun v post=>v=.int .i64 s.flushE/\post=devC p bn bw bl n (s.flush n)):=by
 unfold DevS.flushE DevS.flush
 cases hd:s.down
 . simp only [Bool.false_eq_true,if_false]
   refine Spec.enterG ([[cr p 77 (devHead bn bw bl n s)],[cr bn 220 (secV s.now)],[cr bw 220 (secV s.was)],[cr bl 4 (s.loose.map .bool)]]) func91 rfl ntmps91 rfl (by first | rfl | simp [devC]) (fun w0=>?_)
   refine CW.go uj 9 rfl (LW.eT (dev_Down _ _ p bn bw bl n s) cl158 ((Take.four .t .t .t .t)) ?_)
   rw [hd];refine LW.open4 ?_
   refine LW.go uj 6 rfl (CW.drawH [cr p 77 (devHead bn bw bl n s)] mixed ?_)
   refine AW.ts [0,1,2,3,4,5,6,7] 1 (TW.mv ?_)
   refine TW.np ?_
   refine TW.fa fa77_1 ?_
   refine TW.ld one75 ?_
   refine TW.mv ?_
   refine TW.np ?_
   refine TW.fa fa77_0 ?_
   refine TW.ld one75 ?_
   refine TW.nil (AW.a 8 ?_)
   refine LW.copy (secV s.now) (secV s.now) rfl rfl underlying75 szt220 .t (RdAt.row .t (fun j v hj=>by simpa using hj)) (by simp [secV_len hs.now]) (fun h=>(by cases h)) (by simp [secV_len hs.now,secV_len hs.was]) (secV_one _) (whole (by rw [secV_len hs.now,secV_len hs.was]) (by simp)) rfl ?_
   refine LW.nil (AW.b (AW.d ?_))
   refine NW.go uj 6 rfl (LW.ld one23 ?_)
   refine LW.clear ((List.replicate n false).map Value.bool) rfl underlying23 info4 .t rfl (by intro v hv;simp [Value.cells] at hv;subst hv;rfl) (by simp [hs.loose]) (by rw [show (madeCells (Value.bool false).cells n).toList=List.replicate n (Value.bool false) from madeCells_rep _ _ _ (by intro x hx;simp [Value.cells] at hx;exact hx) (by simp [Value.cells]),List.map_replicate];exact whole (by simp [hs.loose]) (by simp)) ?_
   refine LW.go uj 5 rfl (LW.eT (dev_burns _ _ p bn bw bl n (s.saved n) hs.saved hd) cl159 ((Take.four .t .t .t .t)) ?_)
   refine LW.go uj 8 rfl ?_
   refine NW.r1 ⟨_,⟨rfl,rfl⟩,?_⟩
   first | exact Sub.nil _ | exact Sub.one .t | exact .s2 | exact .s3
 . simp only [if_true]
   refine Spec.enterG ([[cr p 77 (devHead bn bw bl n s)],[cr bn 220 (secV s.now)],[cr bw 220 (secV s.was)],[cr bl 4 (s.loose.map .bool)]]) func91 rfl ntmps91 rfl (by first | rfl | simp [devC]) (fun w0=>?_)
   refine CW.go uj 9 rfl (LW.eT (dev_Down _ _ p bn bw bl n s) cl158 ((Take.four .t .t .t .t)) ?_)
   rw [hd];refine LW.open4 ?_
   refine LW.go uj 10 rfl ?_
   refine NW.r1 ⟨_,⟨rfl,rfl⟩,?_⟩
   exact Sub.four .t .t .t .t
theorem dev_Loose (p bn bw bl n:Nat)(s:DevS)(hs:s.Ok n) :
   Spec prog W B 125 [ptr p] (devC p bn bw bl n s)
     (fun v post=>∃ ch,OwnS 3 1 v (looseTo s n).length ((looseTo s n).map intV) ch/\post=ch++devC p bn bw bl n s):=by
 have hn:=hs.n1
 have hlt:∀ k,k<n->(s.loose.map Value.bool)[k]?=some (.bool (s.loose.getD k false)):=fun k hk=>by
   have:k<s.loose.length:=by rw [hs.loose];exact hk
   simp [List.getD,List.getElem?_eq_getElem this]
 refine Spec.enterG ([[cr p 77 (devHead bn bw bl n s)],[cr bn 220 (secV s.now)],[cr bw 220 (secV s.was)],[cr bl 4 (s.loose.map .bool)]]) func125 rfl ntmps125 rfl (by first | rfl | simp [devC]) (fun w0=>?_)
 refine CW.go uj 14 rfl (LW.eT (dev_Sectors _ _ p bn bw bl n s) cl68 ((Take.four .t .t .t .t)) ?_)
 refine LW.open4 ?_
 refine LW.go uj 4 rfl ?_
 refine CW.loopG (fun st:Nat×Value×List Row=>[(7,iN st.1),(6,iN n),(3,st.2.1),(0,ptr p)]) (fun st=>st.2.2::[[cr p 77 (devHead bn bw bl n s)],[cr bn 220 (secV s.now)],[cr bw 220 (secV s.was)],[cr bl 4 (s.loose.map .bool)]]) (fun st=>st.1<=n/\OwnS 3 1 st.2.1 (looseTo s st.1).length ((looseTo s st.1).map intV) st.2.2) (fun st=>n-st.1) (0,.slice none 0 0,[]) (by exact⟨Nat.zero_le _,OwnS.nil⟩) rfl (by repeat' constructor) ?_
 rintro⟨k,v,ch⟩ ⟨hk,ho⟩;dsimp only at hk ho
 refine CW.go uj 2 rfl (LW.lss (decide ((k:Int)<(n:Int))) rfl rfl (rfl) rfl ?_)
 refine LW.go uj 3 rfl ?_
 refine CW.cond rfl (fun hc8=>?_) (fun hc8=>?_)
 . have hkn:k<n:=by simpa using hc8
   refine CW.go uj 15 rfl (LW.ld one23 ?_)
   refine LW.go uj 1 rfl (LW.indexAddr (k) rfl rfl underlying23 ixs23 (by omega) (by omega) (by simp) rfl ?_)
   refine LW.load (v:=.bool (s.loose.getD k false)) rfl .t (hlt k hkn) one4 rfl ?_
   refine LW.go uj 2 rfl ?_
   refine CW.cond rfl (fun hc16=>?_) (fun hc16=>?_)
   . have hsu:looseTo s (k+1)=looseTo s k++[k]:=by rw [looseTo_succ,hc16];rfl
     have hll:=looseTo_len s k
     refine CW.go uj 3 rfl (LW.bs [_] underlying85 info3 ?_)
     intro bs19
     refine LW.append ([iN k]) rfl rfl underlying85 underlying85 (.inr ⟨_,rfl⟩) info3 rfl (ho) .t (fun _=>lenOf_slice _ _ _ _) (first_rd (RdAt.row .t (fun j v hj=>by simpa using hj)) rfl (fun h=>(by cases h))) (rfl) (by intro u hu;simp at hu;subst hu;rfl) (by omega) (by omega) rfl ?_
     intro v' ch' ho'
     refine LW.go uj 5 rfl (LW.ad ((k+1:Int)) ?_)
     exact LW.go uj 2 rfl (NW.mG ((k+1,v',ch')) (by exact⟨⟨hkn,by rw [hsu];simpa [intV] using ho'⟩,by simp only;omega⟩))
   . have hsu:looseTo s (k+1)=looseTo s k:=by rw [looseTo_succ,hc16];simp
     refine CW.go uj 4 rfl (LW.ad ((k+1:Int)) ?_)
     exact LW.go uj 2 rfl (NW.mG ((k+1,v,ch)) (by exact⟨⟨hkn,by rw [hsu];exact ho⟩,by simp only;omega⟩))
 . have hkn:k=n:=oF hc8
   subst hkn
   refine CW.go uj 2 rfl (NW.then_exit (NW.go uj 9 rfl ?_))
   refine NW.r1 ⟨_,⟨ch,ho,rfl⟩,?_⟩
   exact Sub.take (p:=ch) .t (Sub.four .t .t .t .t)
theorem dev_Crash (p bn bw bl n:Nat)(s:DevS)(hs:s.Ok n)(src:List Row)(A:Option Addr)(cp:Nat)(keep:List Bool)(hsrc:Src W B src A (keep.map .bool)) :
   Spec prog W B 62 [ptr p,.slice A keep.length cp] (src++devC p bn bw bl n s)
     (fun v post=>∃ q qn qw ql,v=ptr q/\post=src++(devC p bn bw bl n s++devC q qn qw ql n (s.crash n keep))):=by
 have hn:=hs.n1
 have hlL:=looseTo_len s n
 refine Spec.enterG (src::[[cr p 77 (devHead bn bw bl n s)],[cr bn 220 (secV s.now)],[cr bw 220 (secV s.was)],[cr bl 4 (s.loose.map .bool)]]) func62 rfl ntmps62 rfl (by first | rfl | simp [devC]) (fun w0=>?_)
 refine CW.go uj 9 rfl (LW.pn underlying45 ?_)
 refine LW.go uj 10 rfl (LW.ld one75 ?_)
 refine LW.go uj 1 rfl (LW.cT (dev_New _ _ n hs.n0 hs.n1) cl12 (Take.none _) ?_)
 rintro _ _ ⟨q,qn,qw,ql,rfl,rfl⟩;refine LW.open4 ?_
 refine LW.go uj 4 rfl (CW.drawH [cr p 77 (devHead bn bw bl n s),cr q 77 (devHead qn qw ql n (DevS.zero n))] mixed ?_)
 refine AW.ts [0,1,2,3,4,5,6,7] 1 (TW.mv ?_)
 refine TW.np ?_
 refine TW.fa fa77_0 ?_
 refine TW.ld one75 ?_
 refine TW.mv ?_
 refine TW.np ?_
 refine TW.fa fa77_0 ?_
 refine TW.ld one75 ?_
 refine TW.nil (AW.a 8 ?_)
 refine LW.copy (secV s.now) (secV (s.kept (looseTo s n) keep 0)) rfl rfl underlying75 szt220 .t (RdAt.row .t (fun j v hj=>by simpa using hj)) (by simp [secV_len hs.now]) (fun h=>(by cases h)) (by simp [secV_len hs.now,DevS.zero,secV_len (Secs.rep n)]) (secV_one _) (whole (by rw [secV_len hs.now,DevS.zero,secV_len (Secs.rep n)]) (by simp)) rfl ?_
 refine LW.nil (AW.b (AW.d ?_))
 refine NW.go uj 5 rfl (LW.cT (dev_Loose _ _ p bn bw bl n s hs) cl125 ((Take.four .t .t .t .t)) ?_)
 rintro v _ ⟨ch,ho,rfl⟩;obtain⟨A2,cp2,rfl,hA2,hc2⟩:=ho.val;refine LW.split2 (LW.open4p ?_)
 refine LW.go uj 5 rfl ?_
 refine CW.loopG (fun k:Nat=>[(28,iN k),(27,.int .i64 ((looseTo s n).length:Int)),(26,.slice A2 (looseTo s n).length cp2),(5,ptr q),(1,.slice A keep.length cp),(0,ptr p)]) (fun k=>[[cr p 77 (devHead bn bw bl n s)],[cr bn 220 (secV s.now)],[cr bw 220 (secV s.was)],[cr bl 4 (s.loose.map .bool)],[cr q 77 (devHead qn qw ql n (DevS.zero n))],[cr qn 220 (secV (s.kept (looseTo s n) keep k))],[cr qw 220 (secV (DevS.zero n).was)],[cr ql 4 ((DevS.zero n).loose.map .bool)],ch,src]) (fun k=>k<=(looseTo s n).length) (fun k=>(looseTo s n).length-k) 0 (by exact Nat.zero_le _) rfl (by repeat' constructor) ?_
 intro k hk
 refine CW.go uj 2 rfl (LW.lss (decide ((k:Int)<((looseTo s n).length:Int))) rfl rfl (rfl) rfl ?_)
 refine LW.go uj 3 rfl ?_
 refine CW.cond rfl (fun hc29=>?_) (fun hc29=>?_)
 . have hkn:k<(looseTo s n).length:=by simpa using hc29
   obtain⟨a2,rfl⟩:∃ a,A2=some a:=by
     cases A2 with
     | none=>have:=hA2 rfl;omega
     | some a=>exact⟨a,rfl⟩
   have hgL:(looseTo s n)[k]?=some ((looseTo s n).getD k 0):=by simp [List.getD,List.getElem?_eq_getElem hkn]
   have hLn:(looseTo s n).getD k 0<n:=looseTo_lt (List.mem_of_getElem? hgL)
   generalize hgl:(looseTo s n).getD k 0=lk at hgL hLn
   refine CW.go uj 7 rfl (LW.indexAt rfl rfl underlying85 ixs85 (by omega) (by omega) rfl ?_)
   refine LW.loadRd (v:=iN lk) rfl (ho.src.rd .t) (by simp [hgL,intV]) one3 rfl ?_
   refine LW.go uj 9 rfl ?_
   by_cases hkl:keep.length<=k
   . refine LW.geqT ?_
     refine LW.go uj 10 rfl ?_
     have hkf:keep.getD k false=false:=by simp [List.getD,List.getElem?_eq_none hkl]
     refine CW.drawH [cr p 77 (devHead bn bw bl n s),cr q 77 (devHead qn qw ql n (DevS.zero n)),cr bw 220 (secV s.was)] mixed ?_
     refine AW.ts [0,1,2,3,4,5,6,7,8,9,10,11,12] 1 (TW.mv ?_)
     refine TW.np ?_
     refine TW.fa fa77_0 ?_
     refine TW.ld one75 ?_
     refine TW.mv ?_
     refine TW.mv ?_
     refine TW.np ?_
     refine TW.fa fa77_1 ?_
     refine TW.ld one75 ?_
     refine TW.mv ?_
     refine TW.take rfl (Yl.indexAddr (lk*64) rfl rfl underlying75 ixs75 (by omega) (by omega) (by simp)) rfl ?_
     refine TW.take rfl (Yl.loadAgg ((s.was.getD lk []).map u8v) rfl (by repeat (first | exact List.Mem.head _ | refine List.Mem.tail _ ?_)) (secV_get hs.was (hs.was.getD hLn)) underlying220 rfl (by rw [szt220];exact congrArg some (Eq.symm (by rw [List.length_map];exact hs.was.get (hs.was.getD hLn))))) rfl ?_
     refine TW.take rfl (Yl.indexAddr (lk*64) rfl rfl underlying75 ixs75 (by omega) (by omega) (by simp)) rfl ?_
     refine TW.nil (AW.a 13 ?_)
     refine LW.storeAgg (secV (s.kept (looseTo s n) keep (k+1))) rfl rfl .t (by rw [szt220];exact congrArg some (Eq.symm (by rw [List.length_map];exact hs.was.get (hs.was.getD hLn)))) (by rw [secV_len (hs.kept keep k hk),List.length_map,hs.was.get (hs.was.getD hLn)];omega) (u8vs_one _) (by rw [DevS.kept_succ,if_neg (by rw [hkf];simp),hgl];exact secV_set (hs.kept keep k hk) hLn (hs.was.get (hs.was.getD hLn)) rfl (by rw [List.length_map,hs.was.get (hs.was.getD hLn)])) ?_
     refine LW.nil (AW.b (AW.d ?_))
     refine NW.go uj 3 rfl (LW.ad ((k+1:Int)) ?_)
     exact LW.go uj 2 rfl (NW.mG (k+1) (by exact⟨hkn,by omega⟩))
   . refine LW.geqF ?_
     refine LW.go uj 6 rfl ?_
     obtain⟨ak,rfl⟩:∃ a,A=some a:=hsrc.some (by rw [List.length_map];omega)
     refine LW.indexAt rfl rfl underlying23 ixs23 (by omega) (by omega) rfl ?_
     refine LW.go uj 1 rfl (LW.loadRd (v:=.bool (keep.getD k false)) rfl (hsrc.rd .t) (by simp [List.getD,List.getElem?_eq_getElem (Nat.not_le.1 hkl)]) one4 rfl ?_)
     refine LW.go uj 1 rfl (LW.not (!(keep.getD k false)) rfl (rfl) rfl ?_)
     refine LW.go uj 3 rfl ?_
     refine CW.cond rfl (fun hc43=>?_) (fun hc43=>?_)
     . have hkf:keep.getD k false=false:=by simpa using hc43
       refine CW.drawH [cr p 77 (devHead bn bw bl n s),cr q 77 (devHead qn qw ql n (DevS.zero n)),cr bw 220 (secV s.was)] mixed ?_
       refine AW.ts [0,1,2,3,4,5,6,7,8,9,10,11,12] 1 (TW.mv ?_)
       refine TW.np ?_
       refine TW.fa fa77_0 ?_
       refine TW.ld one75 ?_
       refine TW.mv ?_
       refine TW.mv ?_
       refine TW.np ?_
       refine TW.fa fa77_1 ?_
       refine TW.ld one75 ?_
       refine TW.mv ?_
       refine TW.take rfl (Yl.indexAddr (lk*64) rfl rfl underlying75 ixs75 (by omega) (by omega) (by simp)) rfl ?_
       refine TW.take rfl (Yl.loadAgg ((s.was.getD lk []).map u8v) rfl (by repeat (first | exact List.Mem.head _ | refine List.Mem.tail _ ?_)) (secV_get hs.was (hs.was.getD hLn)) underlying220 rfl (by rw [szt220];exact congrArg some (Eq.symm (by rw [List.length_map];exact hs.was.get (hs.was.getD hLn))))) rfl ?_
       refine TW.take rfl (Yl.indexAddr (lk*64) rfl rfl underlying75 ixs75 (by omega) (by omega) (by simp)) rfl ?_
       refine TW.nil (AW.a 13 ?_)
       refine LW.storeAgg (secV (s.kept (looseTo s n) keep (k+1))) rfl rfl .t (by rw [szt220];exact congrArg some (Eq.symm (by rw [List.length_map];exact hs.was.get (hs.was.getD hLn)))) (by rw [secV_len (hs.kept keep k hk),List.length_map,hs.was.get (hs.was.getD hLn)];omega) (u8vs_one _) (by rw [DevS.kept_succ,if_neg (by rw [hkf];simp),hgl];exact secV_set (hs.kept keep k hk) hLn (hs.was.get (hs.was.getD hLn)) rfl (by rw [List.length_map,hs.was.get (hs.was.getD hLn)])) ?_
       refine LW.nil (AW.b (AW.d ?_))
       refine NW.go uj 3 rfl (LW.ad ((k+1:Int)) ?_)
       exact LW.go uj 2 rfl (NW.mG (k+1) (by exact⟨hkn,by omega⟩))
     . have hkt:keep.getD k false=true:=by simpa using hc43
       have hke:s.kept (looseTo s n) keep (k+1)=s.kept (looseTo s n) keep k:=by rw [DevS.kept_succ,if_pos hkt]
       refine CW.go uj 4 rfl (LW.ad ((k+1:Int)) ?_)
       refine LW.go uj 2 rfl ?_
       refine NW.meet (k+1) ?j3 ?e3 ?h3
       case j3=>exact⟨hkn,by omega⟩
       case e3=>repeat (first | exact Env.Le.nil _ | refine Env.Le.cons rfl ?_)
       case h3=>rw [hke];repeat (first | exact Sub.heap_nil _ | exact Sub.refl _ | refine Sub.heap_cons (Take.none _) ?_ | refine Sub.heap_cons .t ?_)
 . have hkn:k=(looseTo s n).length:=oF hc29
   subst hkn
   refine CW.go uj 2 rfl (NW.then_exit (NW.go uj 3 rfl (CW.drawH [cr q 77 (devHead qn qw ql n (DevS.zero n))] mixed ?_)))
   refine AW.ts [0,1,2,3,4,5,6,7] 1 (TW.mv ?_)
   refine TW.np ?_
   refine TW.fa fa77_1 ?_
   refine TW.ld one75 ?_
   refine TW.mv ?_
   refine TW.np ?_
   refine TW.fa fa77_0 ?_
   refine TW.ld one75 ?_
   refine TW.nil (AW.a 8 ?_)
   refine LW.copy (secV (s.kept (looseTo s n) keep (looseTo s n).length)) (secV (s.kept (looseTo s n) keep (looseTo s n).length)) rfl rfl underlying75 szt220 .t (RdAt.row .t (fun j v hj=>by simpa using hj)) (by simp [secV_len (hs.kept keep _ (Nat.le_refl _))]) (fun h=>(by cases h)) (by simp [secV_len (hs.kept keep _ (Nat.le_refl _)),DevS.zero,secV_len (Secs.rep n)]) (secV_one _) (whole (by rw [secV_len (hs.kept keep _ (Nat.le_refl _)),DevS.zero,secV_len (Secs.rep n)]) (by simp)) rfl ?_
   refine LW.nil (AW.b (AW.d ?_))
   refine NW.go uj 8 rfl ?_
   refine NW.r1 ⟨_,⟨q,qn,qw,ql,rfl,rfl⟩,?_⟩
   exact Sub.app .t (Sub.devs .t .t .t .t (Sub.four .t .t .t .t))
end
open Go.RowKit
def I64 (n:Int):Prop:=-9223372036854775808<=n/\n<=9223372036854775807
def i64v (n:Int):Value:=.int .i64 n
def sx (n:Int)(k:Nat):Int:=(IntKind.i64.wrap (n*2 ^ (8*(8-k)))).fdiv (2 ^ (8*(8-k)))
def sizeZ (n:Int):Nat:=
 if n=0 then 0 else if n=sx n 1 then 1 else if n=sx n 2 then 2 else if n=sx n 3 then 3 else if n=sx n 4 then 4 else if n=sx n 5 then 5 else if n=sx n 6 then 6 else if n=sx n 7 then 7 else 8
def byteZ (n:Int)(i:Nat):UInt8:=UInt8.ofNat ((n.fdiv (2 ^ (8*i))) % 256).toNat
def encZ (n:Int):List UInt8:=UInt8.ofNat (sizeZ n)::(List.range (sizeZ n)).map (byteZ n)
def encs (ns:List Int):List UInt8:=(ns.map encZ).flatten
def accZ (bs:List UInt8)(m:Nat):Int:=(List.range m).foldl (fun x i=>bits .or .i64 x (IntKind.i64.wrap (((bs.getD (1+i) 0).toNat:Int)*2 ^ (8*i)))) 0
def numZ (bs:List UInt8)(k:Nat):Int:=if k=0 then 0 else sx (accZ bs k) k
def getZ (bs:List UInt8):Option (Int×Nat):=
 if bs.length=0 then none else if 8<(bs.getD 0 0).toNat then none else if bs.length<=(bs.getD 0 0).toNat then none
 else if sizeZ (numZ bs (bs.getD 0 0).toNat)=(bs.getD 0 0).toNat then some (numZ bs (bs.getD 0 0).toNat,(bs.getD 0 0).toNat+1) else none
theorem sizeZ_le (n:Int):sizeZ n<=8:=by
 unfold sizeZ
 repeat' split
 all_goals omega
theorem sizeZ_eq {n:Int}{k:Nat}(h0:n≠0)(h1:1<=k)(h8:k<=8)(hlt:∀ j,1<=j->j<k->n≠sx n j)(he:k=8\/n=sx n k):sizeZ n=k:=by
 have hk:k=1\/k=2\/k=3\/k=4\/k=5\/k=6\/k=7\/k=8:=by omega
 have h7:k=8\/(k≠8/\n=sx n k):=by
   rcases he with h | h
   . exact .inl h
   . by_cases hk8:k=8
     . exact .inl hk8
     . exact .inr ⟨hk8,h⟩
 unfold sizeZ
 rw [if_neg h0]
 rcases hk with rfl | rfl | rfl | rfl | rfl | rfl | rfl | rfl
 . rw [if_pos (by simpa using h7)]
 . rw [if_neg (hlt 1 (by omega) (by omega)),if_pos (by simpa using h7)]
 . rw [if_neg (hlt 1 (by omega) (by omega)),if_neg (hlt 2 (by omega) (by omega)),if_pos (by simpa using h7)]
 . rw [if_neg (hlt 1 (by omega) (by omega)),if_neg (hlt 2 (by omega) (by omega)),if_neg (hlt 3 (by omega) (by omega)),if_pos (by simpa using h7)]
 . rw [if_neg (hlt 1 (by omega) (by omega)),if_neg (hlt 2 (by omega) (by omega)),if_neg (hlt 3 (by omega) (by omega)),if_neg (hlt 4 (by omega) (by omega)),if_pos (by simpa using h7)]
 . rw [if_neg (hlt 1 (by omega) (by omega)),if_neg (hlt 2 (by omega) (by omega)),if_neg (hlt 3 (by omega) (by omega)),if_neg (hlt 4 (by omega) (by omega)),if_neg (hlt 5 (by omega) (by omega)),if_pos (by simpa using h7)]
 . rw [if_neg (hlt 1 (by omega) (by omega)),if_neg (hlt 2 (by omega) (by omega)),if_neg (hlt 3 (by omega) (by omega)),if_neg (hlt 4 (by omega) (by omega)),if_neg (hlt 5 (by omega) (by omega)),if_neg (hlt 6 (by omega) (by omega)),if_pos (by simpa using h7)]
 . rw [if_neg (hlt 1 (by omega) (by omega)),if_neg (hlt 2 (by omega) (by omega)),if_neg (hlt 3 (by omega) (by omega)),if_neg (hlt 4 (by omega) (by omega)),if_neg (hlt 5 (by omega) (by omega)),if_neg (hlt 6 (by omega) (by omega)),if_neg (hlt 7 (by omega) (by omega))]
theorem shp (n:Int)(k:Nat)(hk:k<=8):IntKind.i64.wrap (n*2 ^ min (8*(8-(k:Int))).toNat 64)=IntKind.i64.wrap (n*2 ^ (8*(8-k))):=by
 rw [show min (8*(8-(k:Int))).toNat 64=8*(8-k) by omega]
theorem shq (n:Int)(k:Nat)(hk:k<=8):(IntKind.i64.wrap (n*2 ^ (8*(8-k)))).fdiv (2 ^ min (8*(8-(k:Int))).toNat 64)=sx n k:=by
 rw [show min (8*(8-(k:Int))).toNat 64=8*(8-k) by omega];rfl
theorem shb (n:Int)(i:Nat)(hi:i<8):n.fdiv (2 ^ min (8*(i:Int)).toNat 64)=n.fdiv (2 ^ (8*i)):=by
 rw [show min (8*(i:Int)).toNat 64=8*i by omega]
theorem shl8 (x:Int)(i:Nat)(hi:i<8):IntKind.i64.wrap (x*2 ^ min (8*(i:Int)).toNat 64)=IntKind.i64.wrap (x*2 ^ (8*i)):=by
 rw [show min (8*(i:Int)).toNat 64=8*i by omega]
theorem wrap_u8 (x:Int):IntKind.u8.wrap x=((UInt8.ofNat (x % 256).toNat).toNat:Int):=by
 have h1:IntKind.u8.wrap x=x % 256:=by simp [IntKind.wrap,IntKind.bits,IntKind.signed]
 rw [h1,UInt8.toNat_ofNat']
 omega
theorem wrap_u8_nat (k:Nat)(hk:k<=8):IntKind.u8.wrap (k:Int)=((UInt8.ofNat k).toNat:Int):=by
 rw [wrap_u8]
 congr 2
 rw [show ((k:Int) % 256).toNat=k by omega]
theorem encZ_len (n:Int):(encZ n).length=sizeZ n+1:=by simp [encZ]
theorem encs_len (ns:List Int):(encs ns).length<=9*ns.length:=by
 induction ns with
 | nil=>simp [encs]
 | cons n r ih=>
  have h1:encs (n::r)=encZ n++encs r:=by simp [encs]
  have:=sizeZ_le n
  rw [h1,List.length_append,encZ_len,List.length_cons]
  omega
theorem encs_succ (ns:List Int)(i:Nat)(hi:i<ns.length):encs (ns.take (i+1))=encs (ns.take i)++encZ (ns.getD i 0):=by
 have:ns.take (i+1)=ns.take i++[ns.getD i 0]:=by
  rw [List.take_add_one]
  simp [List.getD,List.getElem?_eq_getElem hi]
 rw [this]
 simp [encs]
def OwnB (v:Value)(bs:List UInt8)(ch:List Row):Prop:=OwnS 5 1 v bs.length (bs.map u8v) ch
theorem OwnB.nil:OwnB (.slice none 0 0) [] []:=OwnS.nil
theorem OwnS.one {t:TypeId}{sz:Nat}{v:Value}{m:Nat}{xs:List Value}{ch:List Row}(o:OwnS t sz v m xs ch):v.oneCell'=true:=by
 obtain⟨A,cp,rfl,_,_⟩:=o.val
 rfl
theorem OwnB.app {v:Value}{m k:Nat}{bs cs:List UInt8}{ch:List Row}(h:OwnS 5 1 v (m+k) (bs.map u8v++cs.map u8v) ch)(hm:m=bs.length)(hk:k=cs.length):OwnB v (bs++cs) ch:=by
 subst hm hk
 unfold OwnB
 rw [List.length_append,List.map_append]
 exact h
theorem Src.cut {W:World}{B:Nat}{src:List Row}{A:Option Addr}{xs:List Value}(k:Src W B src A xs)(i:Nat):Src W B src (A.map (·.add i)) (xs.drop i):=by
 rcases k with rfl | ⟨a,rfl,⟨hb,hx⟩ | ⟨b,o,t,l,rfl,hm,hx⟩⟩
 . left;simp
 . exact .inr ⟨_,rfl,.inl ⟨by rw [block_of_add];exact hb,fun j v hj=>by rw [add_of_add];exact hx (i+j) v (by rwa [List.getElem?_drop] at hj)⟩⟩
 . exact .inr ⟨_,rfl,.inr ⟨b,o+i,t,l,by simp [Addr.add_mid],hm,fun j v hj=>by rw [Nat.add_assoc];exact hx (i+j) v (by rwa [List.getElem?_drop] at hj)⟩⟩
def RdS (W:World)(B:Nat)(v:Value)(bs:List UInt8)(ch:List Row):Prop:=∃ A cp,v=.slice A bs.length cp/\bs.length<=cp/\Src W B ch A (bs.map u8v)
theorem RdS.of {W:World}{B:Nat}{v:Value}{bs:List UInt8}{ch:List Row}(o:OwnB v bs ch):RdS W B v bs ch:=by
 obtain⟨A,cp,rfl,_,hc⟩:=OwnS.val o
 exact⟨A,cp,rfl,hc,OwnS.src o⟩
theorem RdS.cut {W:World}{B:Nat}{A:Option Addr}{cp:Nat}{bs:List UInt8}{ch:List Row}(hs:Src W B ch A (bs.map u8v))(hc:bs.length<=cp)(i:Nat)(hi:i<=bs.length) :
   RdS W B (.slice (cutA A cp i 1) (bs.length-i) (cp-i)) (bs.drop i) ch:=by
 refine⟨cutA A cp i 1,cp-i,by rw [List.length_drop],by rw [List.length_drop];omega,?_⟩
 unfold cutA
 split
 . left
   rw [List.drop_eq_nil_of_le (by omega)];rfl
 . rw [Nat.mul_one,List.map_drop]
   exact hs.cut i
open Go.RowKit
section
variable (W:World)(B:Nat)
theorem bin_size (n:Int):Spec prog W B 87 [.int .i64 n] [] (fun v post=>v=.int .i64 (sizeZ n:Int)/\post=[]):=by
 refine Spec.eG [] func87 ntmps87 fun w0=>?_
 refine CW.go uj 9 rfl (LW.eql (n==0) rfl rfl (rfl) rfl ?_)
 refine LW.go uj 2 rfl ?_
 refine CW.cond rfl (fun hc5=>?_) (fun hc5=>?_)
 . have h0:n=0:=by simpa using hc5
   refine CW.go uj 7 rfl ?_
   refine NW.ret1 rfl rfl ⟨_,⟨by rw [h0];rfl,rfl⟩,?_⟩
   first | exact Sub.nil _ | exact Sub.one .t | exact .s2 | exact .s3
 . have h0:n≠0:=by simpa using hc5
   refine CW.go uj 9 rfl ?_
   refine CW.loopG (fun k:Nat=>[(3,iN k),(0,.int .i64 n)]) (fun _=>[]) (fun k=>1<=k/\k<=8/\∀ j,1<=j->j<k->n≠sx n j) (fun k=>8-k) 1 (by exact⟨Nat.le_refl _,by omega,fun j h1 h2=>by omega⟩) rfl (by repeat' constructor) ?_
   rintro k ⟨hk1,hk8,hlt⟩
   refine CW.go uj 4 rfl ?_
   by_cases hkk:k<8
   . refine LW.lssT ?_
     refine LW.go uj 8 rfl (LW.sub ((8-k:Int)) rfl rfl w6 rfl ?_)
     refine LW.go uj 1 rfl (LW.mul ((8*(8-k):Int)) rfl rfl w6 rfl ?_)
     refine LW.go uj 1 rfl (LW.shl (IntKind.i64.wrap (n*2 ^ (8*(8-k)))) rfl rfl (by omega) (shp n k hk8) rfl ?_)
     refine LW.go uj 3 rfl (LW.sub ((8-k:Int)) rfl rfl w6 rfl ?_)
     refine LW.go uj 1 rfl (LW.mul ((8*(8-k):Int)) rfl rfl w6 rfl ?_)
     refine LW.go uj 1 rfl (LW.shr (sx n k) rfl rfl (by omega) (shq n k hk8) rfl ?_)
     refine LW.go uj 1 rfl (LW.neq (n != sx n k) rfl rfl (rfl) rfl ?_)
     refine LW.go uj 3 rfl ?_
     refine CW.cond rfl (fun hc20=>?_) (fun hc20=>?_)
     . have hne:n≠sx n k:=by simpa using hc20
       refine CW.go uj 5 rfl (LW.ad ((k+1:Int)) ?_)
       refine LW.go uj 3 rfl ?_
       exact NW.meetG (k+1) (by exact⟨⟨by omega,by omega,fun j h1 h2=>by
        rcases Nat.lt_or_ge j k with h | h
        . exact hlt j h1 h
        . have:j=k:=by omega
          subst this;exact hne⟩,by omega⟩) rfl (by repeat' constructor)
     . have he:n=sx n k:=by simpa using hc20
       refine CW.go uj 2 rfl (NW.then_exit (NW.go uj 9 rfl ?_))
       refine NW.ret1 rfl rfl ⟨_,⟨by rw [sizeZ_eq h0 hk1 hk8 hlt (.inr he)],rfl⟩,?_⟩
       first | exact Sub.nil _ | exact Sub.one .t | exact .s2 | exact .s3
   . refine LW.lssF ?_
     refine LW.go uj 18 rfl (NW.then_exit (NW.go uj 9 rfl ?_))
     refine NW.ret1 rfl rfl ⟨_,⟨by rw [sizeZ_eq h0 hk1 hk8 hlt (.inl (by omega))],rfl⟩,?_⟩
     first | exact Sub.nil _ | exact Sub.one .t | exact .s2 | exact .s3
theorem bin_WInt (w:Nat)(v:Value)(bs:List UInt8)(ch:List Row)(ho:OwnB v bs ch)(ns:List Int)(hns:∀ n∈ns,I64 n)(src:List Row)(A:Option Addr)(cp:Nat)(hsrc:Src W B src A (ns.map i64v))(hb:bs.length+9*ns.length<=1000000000) :
   Spec prog W B 40 [ptr w,.slice A ns.length cp] (src++([cr w 99 [v]]++ch))
     (fun r post=>r=.tuple #[]/\∃ v' ch',OwnB v' (bs++encs ns) ch'/\post=src++([cr w 99 [v']]++ch')):=by
 refine Spec.eG [src,[cr w 99 [v]],ch] func40 ntmps40 fun w0=>?_
 refine CW.go uj 4 rfl (LW.pn underlying103 ?_)
 refine LW.go uj 13 rfl ?_
 refine CW.loopG (fun st:Nat×Value×List Row=>[(12,iN st.1),(11,iN ns.length),(10,.slice A ns.length cp),(0,ptr w)]) (fun st=>[src,[cr w 99 [st.2.1]],st.2.2]) (fun st=>st.1<=ns.length/\OwnB st.2.1 (bs++encs (ns.take st.1)) st.2.2) (fun st=>ns.length-st.1) (0,v,ch) (by exact⟨Nat.zero_le _,by simpa [encs] using ho⟩) rfl (by repeat' constructor) ?_
 rintro⟨i,v1,ch1⟩ ⟨hi,ho1⟩;dsimp only at hi ho1
 refine CW.go uj 2 rfl (LW.lss (decide ((i:Int)<(ns.length:Int))) rfl rfl (rfl) rfl ?_)
 refine LW.go uj 3 rfl ?_
 refine CW.cond rfl (fun hc13=>?_) (fun hc13=>?_)
 . have hin:i<ns.length:=by simpa using hc13
   obtain⟨a,rfl⟩:∃ a,A=some a:=hsrc.some (by rw [List.length_map];omega)
   have hgi:ns[i]?=some (ns.getD i 0):=by simp [List.getD,List.getElem?_eq_getElem hin]
   have hI:I64 (ns.getD i 0):=hns _ (List.mem_of_getElem? hgi)
   have hel:=encs_len (ns.take i)
   rw [List.length_take] at hel
   have hsl:=sizeZ_le (ns.getD i 0)
   have hes:=encs_succ ns i hin
   generalize hgn:ns.getD i 0=n at *
   refine CW.go uj 6 rfl (LW.indexAt rfl rfl underlying166 ixs166 (by omega) (by omega) rfl ?_)
   refine LW.loadRd (v:=.int .i64 n) rfl (hsrc.rd .t) (by simp [hgi,i64v]) one2 rfl ?_
   refine LW.go uj 6 rfl (LW.eT (bin_size _ _ n) cl87 (Take.none _) ?_)
   refine LW.go uj 9 rfl (LW.ld one65 ?_)
   refine LW.go uj 1 rfl (LW.convInt (((UInt8.ofNat (sizeZ n)).toNat:Int)) rfl underlying3 underlying5 (wrap_u8_nat _ hsl) rfl ?_)
   refine LW.bs [_] underlying65 info5 ?_
   intro bs25
   refine LW.append ([UInt8.ofNat (sizeZ n)].map u8v) rfl rfl underlying65 underlying65 (.inr ⟨_,rfl⟩) info5 rfl (ho1) .t (fun _=>lenOf_slice _ _ _ _) (first_rd (RdAt.row .t zd) rfl (fun h=>(by cases h))) (rfl) (u8vs_one _) (by rw [List.length_append];omega) (by rw [List.length_append];omega) rfl ?_
   intro v2 ch2 ho2;have hv2:=OwnS.one ho2;replace ho2:=OwnB.app ho2 rfl rfl
   refine LW.go uj 2 rfl (LW.store rfl rfl .t (by exact Nat.one_pos) sz65 (hv2) ?_)
   refine LW.go uj 9 rfl ?_
   refine CW.loopG (fun st:Nat×Value×List Row=>[(30,iN st.1),(29,.int .i64 (sizeZ n:Int)),(5,.int .i64 n),(12,iN i),(11,iN ns.length),(10,.slice (some a) ns.length cp),(0,ptr w)]) (fun st=>[src,[cr w 99 [st.2.1]],st.2.2]) (fun st=>st.1<=sizeZ n/\OwnB st.2.1 (bs++encs (ns.take i)++[UInt8.ofNat (sizeZ n)]++(List.range st.1).map (byteZ n)) st.2.2) (fun st=>sizeZ n-st.1) (0,v2,ch2) (by exact⟨Nat.zero_le _,by simpa using ho2⟩) rfl (by repeat' constructor) ?_
   rintro⟨j,v3,ch3⟩ ⟨hj,ho3⟩;dsimp only at hj ho3
   refine CW.go uj 2 rfl (LW.lss (decide ((j:Int)<(sizeZ n:Int))) rfl rfl (rfl) rfl ?_)
   refine LW.go uj 3 rfl ?_
   refine CW.cond rfl (fun hc31=>?_) (fun hc31=>?_)
   . have hjn:j<sizeZ n:=by simpa using hc31
     refine CW.go uj 10 rfl (CW.drawH [] mixed ?_)
     refine AW.ts [0,1,2,3,5,6,7,8,9] 6 (TW.mv ?_)
     refine TW.mv ?_
     refine TW.np ?_
     refine TW.fa fa99_0 ?_
     refine TW.mv ?_
     refine TW.mv ?_
     refine TW.take rfl (Yl.mul ((8*j:Int)) rfl rfl w6) rfl ?_
     refine TW.take rfl (Yl.shr (n.fdiv (2 ^ (8*j))) rfl rfl (by omega) (shb n j (by omega))) rfl ?_
     refine TW.take rfl (Yl.convInt (((byteZ n j).toNat:Int)) rfl underlying2 underlying5 (wrap_u8 _)) rfl ?_
     refine TW.nil (AW.all [4,10] (by kernel_rfl) rfl ?_)
     refine AWs.cons rfl ?_ ?_
     . refine LW.ld one65 ?_
       refine LW.nil (AW.b (AW.a 10 ?_))
       refine LW.bs [_] underlying65 info5 ?_
       intro bs43
       refine LW.nil (AW.b (AW.a 11 ?_))
       refine LW.append ([byteZ n j].map u8v) rfl rfl underlying65 underlying65 (.inr ⟨_,rfl⟩) info5 rfl (ho3) .t (fun _=>lenOf_slice _ _ _ _) (first_rd (RdAt.row .t zd) rfl (fun h=>(by cases h))) (rfl) (u8vs_one _) (by simp only [List.length_append,List.length_map,List.length_range,List.length_singleton];omega) (by simp only [List.length_append,List.length_map,List.length_range,List.length_singleton];omega) rfl ?_
       intro v4 ch4 ho4;have hv4:=OwnS.one ho4;replace ho4:=OwnB.app ho4 rfl rfl
       refine LW.nil (AW.b (AW.ts [12,13] 1 (TW.np ?_)))
       refine TW.fa fa99_0 ?_
       refine TW.nil (AW.a 14 ?_)
       refine LW.store rfl rfl .t (by exact Nat.one_pos) sz65 (hv4) ?_
       refine LW.nil (AW.b (AW.d ?_))
       refine NW.go uj 3 rfl (LW.ad ((j+1:Int)) ?_)
       exact LW.go uj 2 rfl (NW.mG ((j+1,v4,ch4)) (by exact⟨⟨hjn,by rw [List.range_succ,List.map_append,<- List.append_assoc];exact ho4⟩,by dsimp only;omega⟩))
     refine AWs.cons rfl ?_ ?_
     . refine LW.bs [_] underlying65 info5 ?_
       intro bs43
       refine LW.nil (AW.b (AW.a 4 ?_))
       refine LW.ld one65 ?_
       refine LW.nil (AW.b (AW.a 11 ?_))
       refine LW.append ([byteZ n j].map u8v) rfl rfl underlying65 underlying65 (.inr ⟨_,rfl⟩) info5 rfl (ho3) .t (fun _=>lenOf_slice _ _ _ _) (first_rd (RdAt.row .t zd) rfl (fun h=>(by cases h))) (rfl) (u8vs_one _) (by simp only [List.length_append,List.length_map,List.length_range,List.length_singleton];omega) (by simp only [List.length_append,List.length_map,List.length_range,List.length_singleton];omega) rfl ?_
       intro v4 ch4 ho4;have hv4:=OwnS.one ho4;replace ho4:=OwnB.app ho4 rfl rfl
       refine LW.nil (AW.b (AW.ts [12,13] 1 (TW.np ?_)))
       refine TW.fa fa99_0 ?_
       refine TW.nil (AW.a 14 ?_)
       refine LW.store rfl rfl .t (by exact Nat.one_pos) sz65 (hv4) ?_
       refine LW.nil (AW.b (AW.d ?_))
       refine NW.go uj 3 rfl (LW.ad ((j+1:Int)) ?_)
       exact LW.go uj 2 rfl (NW.mG ((j+1,v4,ch4)) (by exact⟨⟨hjn,by rw [List.range_succ,List.map_append,<- List.append_assoc];exact ho4⟩,by dsimp only;omega⟩))
     exact AWs.nil
   . have hje:j=sizeZ n:=oF hc31
     subst hje
     refine CW.go uj 2 rfl (NW.then_exit (NW.go uj 4 rfl (LW.ad ((i+1:Int)) ?_)))
     exact LW.go uj 2 rfl (NW.mG ((i+1,v3,ch3)) (by exact⟨⟨hin,by rw [hes,<- List.append_assoc];simpa [encZ] using ho3⟩,by dsimp only;omega⟩))
 . have hie:i=ns.length:=oF hc13
   subst hie
   rw [List.take_length] at ho1
   refine CW.go uj 2 rfl (NW.then_exit (NW.go uj 1 rfl ?_))
   refine NW.end0 rfl  ⟨_,⟨rfl,v1,ch1,ho1,rfl⟩,?_⟩
   exact Sub.take (p:=src) .t (Sub.take (p:=[_]) .t (Sub.one .t))
end
end Go.Proofs.YtnlpccoigflheaaGreatDoor
