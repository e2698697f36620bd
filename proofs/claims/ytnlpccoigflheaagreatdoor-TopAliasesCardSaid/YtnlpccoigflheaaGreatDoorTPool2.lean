/- TSort TVals TPool TPool2 -/
import Derived.Test.YtnlpccoigflheaaGreatDoorMapX
import Derived.Test.YtnlpccoigflheaaGreatDoorTBest2
import Derived.RangeFuncBox
import Derived.RangeFuncLeaves
import Derived.Shelf.Abstract
import Derived.WalkKit
import Derived.OwnWalkIn
import Derived.TacticsInMore
import Derived.LoopNIn
import Derived.LoopIn
import Derived.Maps.AppendAt
import Derived.Test.YtnlpccoigflheaaGreatDoorFac
namespace Go.Proofs.YtnlpccoigflheaaGreatDoor
open Go.RowKit Go.Maps Go.Sort Go.Shelf Go.MapKept
open Go.Proofs.Tryz
def Tuq:Tbl:=⟨[(371,0,0),(371,1,1)],[],[85,433]⟩
theorem uq:Tuq.Ok Tryz.prog:=.of (⟨⟨_,Tryz.underlying85⟩,⟨_,Tryz.underlying433⟩,trivial⟩)
theorem Ext.belowN {B:Nat}{w w':World}{pre new:List Row}(hp:RowsOk B pre w)(hB:B<=w.heap.size)(hb:Go.RowKit.Below w.heap.size w w')(hn:(new.map (·.b)).Nodup)(hr:∀ r∈new,w.heap.size<=r.b/\w'.heap[r.b]?=some r.o):Ext B w (pre.map (·.b)) (new++pre) w':=by
 have hlt:∀ r∈pre,r.b<w.heap.size:=fun r h=>row_lt (hp.2 r h).2
 refine⟨hb.os,hb.tape,hb.output,hb.size,⟨?_,?_⟩,fun b h _=>hb.block b h,?_⟩
 . rw [List.map_append,List.nodup_append]
   refine⟨hn,hp.1,fun a ha b hb' hab=>?_⟩
   obtain⟨r,h1,rfl⟩:=List.mem_map.1 ha
   obtain⟨q,h2,rfl⟩:=List.mem_map.1 hb'
   have:=hlt q h2
   have:=(hr r h1).1
   omega
 . intro r h
   rcases List.mem_append.1 h with h | h
   . exact⟨Nat.le_trans hB (hr r h).1,(hr r h).2⟩
   . exact⟨(hp.2 r h).1,(hb.block _ (hlt r h)).trans (hp.2 r h).2⟩
 . intro r h
   rcases List.mem_append.1 h with h | h
   . exact .inr (hr r h).1
   . exact .inl (List.mem_map.2 ⟨r,h,rfl⟩)
theorem ownS_of_row {w:World}{base t n:Nat}{v:Value}{xs:List Value}(h:w.ownsRow base t 1 v n xs):∃ ch,OwnS t 1 v n xs ch/\(ch.map (·.b)).Nodup/\∀ r∈ch,base<=r.b/\w.heap[r.b]?=some r.o:=by
 obtain⟨hl,⟨rfl,rfl⟩ | ⟨g,cap,cur,rfl,hb,hg,h1,h2,h3,h4⟩⟩:=h
 . obtain rfl:xs=[]:=List.eq_nil_of_length_eq_zero (by omega)
   exact⟨[],.inl ⟨rfl,rfl,rfl,rfl⟩,List.nodup_nil,fun r hr=>by cases hr⟩
 . refine⟨[cr g t (xs++cur.toList.drop n)],.inr ⟨g,cap,cur.toList.drop n,rfl,hl,h1,by simp [h3],rfl⟩,by simp,fun r hr=>?_⟩
   obtain rfl:=List.mem_singleton.1 hr
   refine⟨hb,?_⟩
   show w.heap[g]?=some (.cells (xs++cur.toList.drop n).toArray t (0,0))
   rw [hg,<- h4,Nat.mul_one,List.take_append_drop]
theorem spec_of_below {P:Program}{W:World}{B:Nat}{f:FuncId}{args:List Value}{pre:List Row}{R:Value->List Row->Prop}
 (h:∀ w,RowsOk B pre w->Calls P f args.toArray w fun e w'=>∃ v new,e=.returned v/\R v (new++pre)/\Go.RowKit.Below w.heap.size w w'/\(new.map (·.b)).Nodup/\∀ r∈new,w.heap.size<=r.b/\w'.heap[r.b]?=some r.o) :
 Spec P W B f args pre R:=fun w ho hp=>(h w hp).mono fun e w' ⟨v,new,he,hR,hb,hn,hr⟩=>⟨v,_,he,hR,Ext.belowN hp ho.le hb hn hr⟩
def srt (l:List Int):List Int:=l.mergeSort fun x y=>decide (x<=y)
def srtS (l:List (List UInt8)):List (List UInt8):=l.mergeSort fun x y=>decide (x<=y)
def K64 (k:Int):Prop:=(Lit.int .i64 k).wf=true
abbrev anyR:Value->Option (DataW Unit×List MemPlace):=fun _=>some (.nil,[])
theorem sortsI (m:Nat):AnyZI.SortsIn prog laySortedI_ren Fence.wide m:=
 ⟨fun blk off cap ss W hH hblk hsz=>callsIn_wide.2 (AnyM.slices_Sort_int laySortI blk off cap ss W hH hblk hsz),fun p cap W=>callsIn_wide.2 (AnyM.slices_Sort_int_none laySortI p cap W)⟩
theorem sortsS (m:Nat):AnyZ.SortsIn prog laySortedS_ren Fence.wide m:=
 ⟨fun blk off cap ss W hH hblk hsz=>callsIn_wide.2 (AnyM.slices_Sort_string laySortS blk off cap ss W hH hblk hsz),fun p cap W=>callsIn_wide.2 (AnyM.slices_Sort_string_none laySortS p cap W)⟩
theorem ownsMap_of {w:World}{kt:TypeId}{mb clock:Nat}{es:Array MapEntry}{l:List (Int×Value)}(hk:prog.underlying kt=some (.int .i64))(hb:w.heap[mb]?=some (.map es clock))(hst:Stamped es clock)
   (he:es.toList.map (fun x=>(x.key,x.val))=mrep i64k l) (hw:∀ x∈l,K64 x.1) (hl:l.length<=1000000) :
   ∃ D:DataW Unit,w.ownsMap prog kt anyR mb l.length D/\(intKeys D).Perm (l.map (·.1))/\Maps.size D=l.length:=by
 have hlen:es.size=l.length:=by have:=congrArg List.length he;simpa [mrep] using this
 have hrd:∀ x∈es.toList,∃ k,(k,x.val)∈l/\x.key=i64k k/\WideElems.rd prog kt anyR x=some (.int .i64 k,.nil):=fun x hx=>by
   have h1:(x.key,x.val)∈mrep i64k l:=by rw [<- he];exact List.mem_map.2 ⟨x,hx,rfl⟩
   obtain⟨⟨k,u⟩,hku,h2⟩:=List.mem_map.1 h1
   simp only [Prod.mk.injEq] at h2
   refine⟨k,by rw [<- h2.2];exact hku,h2.1.symm,?_⟩
   have hkey:keyOf prog kt x.key=some (.int .i64 k):=by rw [<- h2.1];exact Maps.keyOf_int_mk hk (hw _ hku)
   simp [WideElems.rd,hkey]
 refine⟨.map ((es.toList.map (WideElems.rg prog kt anyR)).foldr DataW.insert []),⟨es,clock,hb,⟨by rw [hlen];unfold maxLen;omega,hst,fun x hx=>by obtain⟨k,_,_,h⟩:=hrd x hx;exact⟨_,h⟩⟩,by omega,rfl⟩,?_,?_⟩
 . refine ((Go.WideShapes.sorted_perm _).map _).trans (List.Perm.of_eq ?_)
   rw [List.map_map]
   have h3:l.map (·.1)=(es.toList.map (fun x=>(x.key,x.val))).map (fun p=>match p.1 with | .int _ k=>k | _=>0):=by rw [he,mrep,List.map_map];rfl
   rw [h3,List.map_map]
   refine List.map_congr_left fun x hx=>?_
   obtain⟨k,_,h1,h2⟩:=hrd x hx
   simp only [Function.comp_def,WideElems.rg,h2,h1,i64k,Option.getD_some]
   rfl
 . show (List.foldr DataW.insert [] (es.toList.map (WideElems.rg prog kt anyR))).length=l.length
   rw [(Go.WideShapes.sorted_perm _).length_eq,List.length_map,Array.length_toList,hlen]
theorem keyOf_str_mk {k:TypeId}(hk:prog.underlying k=some .string){a:List UInt8}(hw:a.length<=1000000):keyOf prog k (strV a)=some (.string a):=by
 have h:(a.length<=maxLen):=by unfold maxLen;omega
 have h2:ByteArray.size ⟨a.toArray⟩<=maxLen:=h
 simp [keyOf,hk,mapKey,strV,h2]
theorem ownsMap_ofS {w:World}{kt:TypeId}{mb clock:Nat}{es:Array MapEntry}{l:List (List UInt8×Value)}(hk:prog.underlying kt=some .string)(hb:w.heap[mb]?=some (.map es clock))(hst:Stamped es clock)
   (he:es.toList.map (fun x=>(x.key,x.val))=mrep strV l) (hw:∀ x∈l,x.1.length<=1000000) (hl:l.length<=1000000) :
   ∃ D:DataW Unit,w.ownsMap prog kt anyR mb l.length D/\(strKeys D).Perm (l.map (·.1))/\Maps.size D=l.length:=by
 have hlen:es.size=l.length:=by have:=congrArg List.length he;simpa [mrep] using this
 have hrd:∀ x∈es.toList,∃ k,(k,x.val)∈l/\x.key=strV k/\WideElems.rd prog kt anyR x=some (.string k,.nil):=fun x hx=>by
   have h1:(x.key,x.val)∈mrep strV l:=by rw [<- he];exact List.mem_map.2 ⟨x,hx,rfl⟩
   obtain⟨⟨k,u⟩,hku,h2⟩:=List.mem_map.1 h1
   simp only [Prod.mk.injEq] at h2
   refine⟨k,by rw [<- h2.2];exact hku,h2.1.symm,?_⟩
   have hkey:keyOf prog kt x.key=some (.string k):=by rw [<- h2.1];exact keyOf_str_mk hk (hw _ hku)
   simp [WideElems.rd,hkey]
 refine⟨.map ((es.toList.map (WideElems.rg prog kt anyR)).foldr DataW.insert []),⟨es,clock,hb,⟨by rw [hlen];unfold maxLen;omega,hst,fun x hx=>by obtain⟨k,_,_,h⟩:=hrd x hx;exact⟨_,h⟩⟩,by omega,rfl⟩,?_,?_⟩
 . refine ((Go.WideShapes.sorted_perm _).map _).trans (List.Perm.of_eq ?_)
   rw [List.map_map]
   have h3:l.map (·.1)=(es.toList.map (fun x=>(x.key,x.val))).map (fun p=>match p.1 with | .string s=>s.data.toList | _=>[]):=by rw [he,mrep,List.map_map];rfl
   rw [h3,List.map_map]
   refine List.map_congr_left fun x hx=>?_
   obtain⟨k,_,h1,h2⟩:=hrd x hx
   simp only [Function.comp_def,WideElems.rg,h2,h1,strV,Option.getD_some]
   rfl
 . show (List.foldr DataW.insert [] (es.toList.map (WideElems.rg prog kt anyR))).length=l.length
   rw [(Go.WideShapes.sorted_perm _).length_eq,List.length_map,Array.length_toList,hlen]
section
variable (W:World)(B:Nat)
theorem sorted_keysI {ρ:Ren}(L:SlLaysZI.n10 prog ρ)(hg:∀ args w,(callFunc (ρ.f 10) args).run prog w=.ok (.enter (ρ.f 10) args) w)(bx tm:Nat)(v:Value)(l:List (Int×Value))(ch:List Row)(ho:OwnMap i64k v l ch)(hw:∀ x∈l,K64 x.1)(hl:l.length<=1000000) :
  Spec prog W B 150 [.func (.func (ρ.f 10)) #[] #[ptr bx]] ([cr bx tm [v]]++ch) (fun r post=>∃ c2,OwnS 3 1 r l.length ((srt (l.map (·.1))).map i64k) c2/\post=c2++([cr bx tm [v]]++ch)):=by
 obtain⟨mb,es,clock,rfl,rfl,hst,he⟩:=ho
 refine spec_of_below fun w hp=>?_
 have hbx:w.heap[bx]?=some (.cells #[.map (some mb)] tm (0,0)):=(hp.2 (cr bx tm [.map (some mb)]) (by simp)).2
 have hmb:w.heap[mb]?=some (.map es clock):=(hp.2 ⟨mb,.map es clock⟩ (by simp)).2
 obtain⟨D,hown,hperm,hsz⟩:=ownsMap_of (kt:=ρ.t 26) L.t26 hmb hst he hw hl
 have hseq:SeqGives Fence.wide 2 prog (ρ.f 10) #[ptr bx] Go.encZ (fun ss=>ss.Perm (intKeys D)) (Maps.size D) w:=
  AnyZI.keys_gives L Fence.wide 2 trivial rfl (by omega) bx mb l.length D w (row_lt hbx) (by simp [World.cell?,hbx]) hown
 have hmax:(10000000:Nat)<=maxLen:=by unfold maxLen;omega
 have cS:=AnyZI.sorted_in laySortedI Fence.wide 5 trivial trivial trivial trivial rfl (by omega) (sortsI _) (enters_of func227 (by kernel_rfl) rfl) (ρ.f 10) #[ptr bx] trivial hg _ _ (by omega) (by omega) w hseq
 refine (callsIn_wide.1 cS).mono ?_
 rintro e w' ⟨r,ss,rfl,hS,hrow,_,hb⟩
 have hs:ss.mergeSort (fun x y=>decide (x<=y))=srt (l.map (·.1)):=mergeSort_of_perm_i (hS.trans hperm)
 have hlen:ss.length=l.length:=by rw [(hS.trans hperm).length_eq,List.length_map]
 rw [hs,hlen] at hrow
 obtain⟨c2,ho2,hn,hr⟩:=ownS_of_row hrow
 exact⟨r,c2,rfl,⟨c2,ho2,rfl⟩,hb,hn,hr⟩
theorem sorted_keysS {ρ:Ren}(L:SlLaysZ.n10 prog ρ)(hg:∀ args w,(callFunc (ρ.f 10) args).run prog w=.ok (.enter (ρ.f 10) args) w)(bx tm:Nat)(v:Value)(l:List (List UInt8×Value))(ch:List Row)(ho:OwnMap strV v l ch)(hw:∀ x∈l,x.1.length<=1000000)(hl:l.length<=1000000) :
  Spec prog W B 206 [.func (.func (ρ.f 10)) #[] #[ptr bx]] ([cr bx tm [v]]++ch) (fun r post=>∃ c2,OwnS 9 1 r l.length ((srtS (l.map (·.1))).map strV) c2/\post=c2++([cr bx tm [v]]++ch)):=by
 obtain⟨mb,es,clock,rfl,rfl,hst,he⟩:=ho
 refine spec_of_below fun w hp=>?_
 have hbx:w.heap[bx]?=some (.cells #[.map (some mb)] tm (0,0)):=(hp.2 (cr bx tm [.map (some mb)]) (by simp)).2
 have hmb:w.heap[mb]?=some (.map es clock):=(hp.2 ⟨mb,.map es clock⟩ (by simp)).2
 obtain⟨D,hown,hperm,hsz⟩:=ownsMap_ofS (kt:=ρ.t 26) L.t26 hmb hst he hw hl
 have hseq:SeqGives Fence.wide 2 prog (ρ.f 10) #[ptr bx] encStr (fun ss=>ss.Perm (strKeys D)) (Maps.size D) w:=
  AnyZ.keys_gives L Fence.wide 2 trivial rfl (by omega) bx mb l.length D w (row_lt hbx) (by simp [World.cell?,hbx]) hown
 have hmax:(10000000:Nat)<=maxLen:=by unfold maxLen;omega
 have cS:=AnyZ.sorted_in laySortedS Fence.wide 5 trivial trivial trivial trivial rfl (by omega) (sortsS _) (enters_of func264 (by kernel_rfl) rfl) (ρ.f 10) #[ptr bx] trivial hg _ _ (by omega) (by omega) w hseq
 refine (callsIn_wide.1 cS).mono ?_
 rintro e w' ⟨r,ss,rfl,hS,hrow,_,hb⟩
 have hs:ss.mergeSort (fun x y=>decide (x<=y))=srtS (l.map (·.1)):=mergeSort_of_perm (hS.trans hperm)
 have hlen:ss.length=l.length:=by rw [(hS.trans hperm).length_eq,List.length_map]
 rw [hs,hlen] at hrow
 obtain⟨c2,ho2,hn,hr⟩:=ownS_of_row hrow
 exact⟨r,c2,rfl,⟨c2,ho2,rfl⟩,hb,hn,hr⟩
end
open Go.RowKit Go.Maps Go.Sort Go.Shelf
attribute [local go_sem] Oper.semAt_some
def upto (f:Nat->Int)(k:Nat):List Int:=(List.range k).map f
theorem upto_succ (f:Nat->Int)(k:Nat):upto f (k+1)=upto f k++[f k]:=by simp [upto,List.range_succ]
theorem upto_length (f:Nat->Int)(k:Nat):(upto f k).length=k:=by simp [upto]
theorem upto_all (zs:List Int):upto (fun j=>zs[j]?.getD 0) zs.length=zs:=by
 apply List.ext_getElem
 . simp [upto]
 . intro i h1 h2
   simp [upto,h2]
theorem upto_take (zs:List Int){k:Nat}(hk:k<=zs.length):upto (fun j=>zs[j]?.getD 0) k=zs.take k:=by
 apply List.ext_getElem
 . simp [upto,hk]
 . intro i h1 h2
   have:i<zs.length:=by simp [upto] at h1;omega
   simp [upto,this]
set_option maxRecDepth 100000 in
set_option maxHeartbeats 2000000 in
theorem values1_in (F:Fence)(n:Nat)(hfn:F.fn 350)(hro:F.round=none)(hn:1<=n)(l Bs n₀ b off len cap:Nat)(zs:List Int)(hreach:len*8<=140737488351232)(hb:b<n₀)(J Jx:List Int->World->Prop)
  (hY:∀ pre x W,J pre W->pre.length<len->YieldAt F (n-1) prog l #[.int .i64 x] W fun e W'=>
    (e=.returned (.bool true)/\J (pre++[x]) W'/\RowKit.Below n₀ W W')\/(e=.returned (.bool false)/\Jx (pre++[x]) W'))
  (W:World) (hBs:W.cell? ⟨Bs,0,none⟩=some (.slice (some ⟨b,off,none⟩) len cap)) (hc:∀ j,j<len->W.cell? ⟨b,off+j,none⟩=some (.int .i64 (zs[j]?.getD 0))) (h0:J [] W) :
  CallsIn F n prog 350 #[.func (.yield l) #[] #[],ptr Bs] W fun e W'=>(∃ v,e=.returned v) /\
    ((∃ ys,ys=upto (fun j=>zs[j]?.getD 0) len/\J ys W')\/(∃ pre,(∃ k,k<=len/\pre=upto (fun j=>zs[j]?.getD 0) k)/\Jx pre W')):=by
 refine callsIn_of_wp func350 rfl hfn ?_ hro
 simp only [ntmps350,List.size_toArray,List.length_cons,List.length_nil,Nat.reduceAdd,Nat.reduceSub,Array.replicate_succ,Array.replicate_zero,List.push_toArray,List.append_toArray,List.nil_append,List.cons_append]
 gi_wp2
 gi_loopw [7] (fun i wr=>∃ k:Nat,k<=len/\i=.int .i64 k/\J (upto (fun j=>zs[j]?.getD 0) k) wr/\RowKit.Below n₀ W wr)
  (fun i _=>len-(RowKit.intOf i).toNat)
 case atStart=>exact⟨0,Nat.zero_le _,rfl,h0,RowKit.Below.refl _ _⟩
 case round=>
  obtain⟨k,hk,rfl,hJs,hnx⟩:=hrel
  have hcx:k<len->wr.cell? ⟨b,off+k,none⟩=some (.int .i64 (zs[k]?.getD 0)):=fun h=>(hnx.cell (p:=⟨b,off+k,none⟩) hb).trans (hc k h)
  by_cases hlt:k<len
  . obtain⟨fn,tmps,assign,body,hy,hR⟩:=hY _ (zs[k]?.getD 0) wr hJs (by rw [upto_length];exact hlt)
    have hcx':=hcx hlt
    gi_wp2
    refine hR.mono ?_
    rintro e W3 (⟨rfl,hJ3,hk3⟩ | ⟨rfl,hJx3⟩)
    . gi_wp2
      go_roundw
      case rel=>exact⟨k+1,by omega,by simp,by rw [upto_succ];exact hJ3,hnx.trans hk3⟩
      case measure=>simp [RowKit.intOf];omega
    . gi_wp2
      refine bodyPost_ret (results_none rfl _ _ _) rfl ?_
      exact⟨⟨_,rfl⟩,.inr ⟨_,⟨k+1,by omega,(upto_succ _ _).symm⟩,hJx3⟩⟩
  . obtain rfl:k=len:=by omega
    gi_wp2
    go_end0
    exact⟨⟨_,rfl⟩,.inl ⟨_,rfl,hJs⟩⟩
def IntsAt (n₀:Nat)(W:World)(sv:Value)(zs:List Int):Prop:=
 (∃ A cap,sv=.slice A 0 cap/\zs=[])\/∃ b off cap,sv=.slice (some ⟨b,off,none⟩) zs.length cap/\b<n₀/\∀ j,j<zs.length->W.cell? ⟨b,off+j,none⟩=some (.int .i64 (zs[j]?.getD 0))
theorem IntsAt.below {n₀:Nat}{A B:World}(h:RowKit.Below n₀ A B){sv:Value}{zs:List Int}:IntsAt n₀ A sv zs->IntsAt n₀ B sv zs
 | .inl e=>.inl e
 | .inr ⟨b,off,cap,e,hb,hc⟩=>.inr ⟨b,off,cap,e,hb,fun j hj=>(h.cell (p:=⟨b,off+j,none⟩) hb).trans (hc j hj)⟩
set_option maxRecDepth 100000 in
set_option maxHeartbeats 1000000 in
theorem values1_nil_in (F:Fence)(n:Nat)(hfn:F.fn 350)(hro:F.round=none)(l Bs:Nat)(A:Option Addr)(cap:Nat)(J:List Int->World->Prop)(W:World)(hBs:W.cell? ⟨Bs,0,none⟩=some (.slice A 0 cap))(h0:J [] W) :
  CallsIn F n prog 350 #[.func (.yield l) #[] #[],ptr Bs] W fun e W'=>(∃ v,e=.returned v)/\J [] W':=by
 refine callsIn_of_wp func350 rfl hfn ?_ hro
 simp only [ntmps350,List.size_toArray,List.length_cons,List.length_nil,Nat.reduceAdd,Nat.reduceSub,Array.replicate_succ,Array.replicate_zero,List.push_toArray,List.append_toArray,List.nil_append,List.cons_append]
 gi_wp2
 gi_loopw [7] (fun i wr=>i=.int .i64 0/\J [] wr) (fun _ _=>0)
 case atStart=>exact⟨rfl,h0⟩
 case round=>
  obtain⟨rfl,hJs⟩:=hrel
  gi_wp2
  go_end0
  exact⟨⟨_,rfl⟩,hJs⟩
theorem values_stops (F:Fence)(n:Nat)(hfn:F.fn 350)(hro:F.round=none)(hn:1<=n)(Bs n₀:Nat)(sv:Value)(zs:List Int)(hreach:zs.length*8<=140737488351232)(w:World)(hBs:Bs<w.heap.size)(hn₀:n₀<=w.heap.size)
   (hc:w.cell? ⟨Bs,0,none⟩=some sv) (hI:IntsAt n₀ w sv zs) :
   SeqStopsK F n prog 350 #[ptr Bs] (fun x:Int=>#[Value.int .i64 x]) (RowKit.Below n₀) (fun ys=>ys=zs) (fun pre=>pre <+: zs) zs.length w:=fun l J Jx W hW _ _ hY h0=>by
 have hc':=(hW.cell (p:=⟨Bs,0,none⟩) hBs).trans hc
 rcases hI.below (hW.mono hn₀) with ⟨A,cap,rfl,rfl⟩ | ⟨b,off,cap,rfl,hb,hcs⟩
 . exact (values1_nil_in F n hfn hro l Bs A cap J W hc' h0).mono fun e W' ⟨he,hj⟩=>⟨he,.inl ⟨_,rfl,hj⟩⟩
 . refine (values1_in F n hfn hro hn l Bs n₀ b off zs.length cap zs hreach hb J Jx hY W hc' hcs h0).mono ?_
   rintro e W' ⟨he,⟨ys,rfl,hj⟩ | ⟨pre,⟨k,hk,rfl⟩,hj⟩⟩
   . exact⟨he,.inl ⟨_,upto_all zs,hj⟩⟩
   . exact⟨he,.inr ⟨_,by rw [upto_take zs hk];exact List.take_prefix _ _,hj⟩⟩
theorem infoInt:(prog.info? 3).map (fun i=>(i.zero,i.size,i.bytes))=some (some (.int .i64 0),1,8):=by kernel_rfl
set_option maxRecDepth 100000 in
set_option maxHeartbeats 2000000 in
theorem appendV_in (F:Fence)(n:Nat)(hA:F.fn 278)(hV:F.fn 350)(hro:F.round=none)(hn:3<=n)(Bs:Nat)(sv:Value)(zs:List Int)(hlen:zs.length<=maxLen)(hbytes:zs.length*8<=140737488351232)(w:World)(hBs:Bs<w.heap.size)
  (hcs:w.cell? ⟨Bs,0,none⟩=some sv) (hI:IntsAt w.heap.size w sv zs) :
  CallsIn F n prog 278 #[.slice none 0 0,.func (.func 350) #[] #[ptr Bs]] w fun e W'=>∃ v,e=.returned v/\W'.ownsRow w.heap.size 3 1 v zs.length (zs.map (Value.int .i64))/\RowKit.Below w.heap.size w W':=by
 have h1:1<=n:=by omega
 obtain⟨i0,hi,hz0,hz1,hz2⟩:=info_parts infoInt
 refine callsIn_of_wp_marks func278 rfl hA ?_ hro
 simp only [ntmps278,List.size_toArray,List.length_cons,List.length_nil,Nat.reduceAdd,Nat.reduceSub,Array.replicate_succ,Array.replicate_zero,List.push_toArray,List.append_toArray,List.nil_append,List.cons_append]
 gi_wp2
 have bO:=Boxed.new w 85 (.slice none 0 0)
 have hB0:RowKit.Below w.heap.size w (w.alloc (.cells #[.slice none 0 0] 85)):=(RowKit.Below.refl _ w).alloc (Nat.le_refl _) _
 refine wpIn_rangeFunc_ownG hro h1 (gf:=350) (lb:=#[ptr Bs]) rfl hV (enters_of func350 (by kernel_rfl) rfl)
  (values_stops F (n-1) hV hro (by omega) Bs w.heap.size sv zs hbytes _ (by simp;omega) (by simp) ((hB0.cell (p:=⟨Bs,0,none⟩) hBs).trans hcs) (hI.below hB0)) belowK_t (belowK_b (by simp)) (RowKit.Below.refl _ _) (fun _=>rfl)
  (fun pre W=>(∃ v,Boxed W w.heap.size 85 v/\W.ownsRow w.heap.size 3 1 v pre.length (pre.map (Value.int .i64)))/\RowKit.Below w.heap.size w W)
  (fun _ _ _=>False)
  (OwnFrom.and (Own.from (fun s A B row hs hg hr=>by
   obtain⟨v,h1,h2,_⟩:=holdsRow_own w.heap.size w.heap.size 85 3 1 (fun pre:List Int=>pre.length) (fun pre=>pre.map (Value.int .i64)) (fun _ _=>True) s A B row (by obtain⟨v,h1,h2⟩:=hs;exact⟨v,h1,h2,trivial⟩) hg hr
   exact⟨v,h1,h2⟩) _) (ownFrom_below (Nat.le_refl _) (by simp)))
  (fun _ _ _ _ _ hs _ _=>hs)
  ⟨⟨_,bO,World.ownsRow_nil _ _ _ _⟩,hB0⟩
  (fun x=>{ tmps:=#[.slice none 0 0,.func (.func 350) #[] #[ptr Bs],.pointer (some ⟨w.heap.size,0,none⟩),undef,.slice none 0 0,.int .i64 x,.func (.func 350) #[] #[ptr Bs],.int .i64 x,undef,undef,undef,undef,undef],defers:=[] }) ?assign ?body ?done ?stop
 case assign=>
  intro l x W K hK
  gi_wp2
  exact hK
 case body=>
  rintro l pre x W ⟨⟨v,hv,hrow⟩,hB⟩ hlt
  have hc:=hv.cell
  gi_wp2_with (gi_at_builtin;refine wpListIn_append_own _ rfl _ _ 85 rfl w.heap.size 3 i0 (.int .i64 0) 1 8 underlying85 hi hz0 hz1 hz2 rfl (by decide) _ _ _ rfl (hrow.alloc _) ⟨W.heap.size,0,none⟩ 1 1 [.int .i64 x] rfl rfl (cell_one_new _ _ _) (by simp [Value.oneCell']) (by omega) (by omega) (by have:=hB.size;simp;omega) ?_;intro v' w1 hown' hgrow _;obtain⟨g',cap',rfl⟩:=ownsRow_succ hown';obtain⟨hv1,hv2,hr2,hk2,hb2⟩:=hv.appended (by decide) hrow hB.size (Nat.le_refl _) hown' hgrow;have hc1:=hv1.cell;have hf1:=hv1.frozen)
  exact⟨hk2.from _,hb2,⟨_,hv2,by simpa using hr2⟩,hB.trans hb2⟩
 case done=>
  rintro D ys W hD rfl ⟨⟨v,hv,hrow⟩,hB⟩ hK
  have hc:=hv.cell
  gi_wp2
  refine⟨by simp,.inl ⟨_,_,rfl,run_takeDeferred hK,?_⟩⟩
  exact⟨_,results_tmp rfl _ _ _,v,rfl,ownsRow_putObj hrow _ hK rfl,hB.trans (belowK_b (w:=w) (Nat.le_refl _) W D _ _ (by simp at hD;omega) hK rfl rfl)⟩
 case stop=>
  rintro D c pre W _ _ h _
  exact h.elim
set_option maxRecDepth 100000 in
set_option maxHeartbeats 1000000 in
theorem collectV_in (F:Fence)(n:Nat)(hC:F.fn 226)(hA:F.fn 278)(hV:F.fn 350)(hro:F.round=none)(hn:4<=n)(Bs:Nat)(sv:Value)(zs:List Int)(hlen:zs.length<=maxLen)(hbytes:zs.length*8<=140737488351232)(w:World)(hBs:Bs<w.heap.size)
  (hcs:w.cell? ⟨Bs,0,none⟩=some sv) (hI:IntsAt w.heap.size w sv zs) :
  CallsIn F n prog 226 #[.func (.func 350) #[] #[ptr Bs]] w fun e W'=>∃ v,e=.returned v/\W'.ownsRow w.heap.size 3 1 v zs.length (zs.map (Value.int .i64))/\RowKit.Below w.heap.size w W':=by
 have h1:1<=n:=by omega
 refine callsIn_of_wp func226 rfl hC ?_ hro
 simp only [ntmps226,List.size_toArray,List.length_cons,List.length_nil,Nat.reduceAdd,Nat.reduceSub,Array.replicate_succ,Array.replicate_zero,List.push_toArray,List.append_toArray,List.nil_append,List.cons_append]
 gi_wp2_with (gi_at_call 278;refine (appendV_in F (n-1) hA hV hro (by omega) Bs sv zs hlen hbytes w hBs hcs hI).mono ?_;rintro e w' ⟨v,rfl,hrow,hb⟩)
 go_ret
 exact⟨v,rfl,hrow,hb⟩
set_option maxRecDepth 100000 in
set_option maxHeartbeats 2000000 in
theorem sortedV_in (n:Nat)(hn:5<=n)(Bs:Nat)(sv:Value)(zs:List Int)(hlen:zs.length<=1000000)(w:World)(hBs:Bs<w.heap.size)
   (hcs:w.cell? ⟨Bs,0,none⟩=some sv) (hI:IntsAt w.heap.size w sv zs) :
   CallsIn Fence.wide n prog 150 #[.func (.func 350) #[] #[ptr Bs]] w fun e W'=>∃ v,e=.returned v/\W'.ownsRow w.heap.size 3 1 v zs.length ((srt zs).map (Value.int .i64))/\RowKit.Below w.heap.size w W':=by
 have h1:1<=n:=by omega
 have hmax:(10000000:Nat)<=maxLen:=by unfold maxLen;omega
 have hfC:Fence.wide.fn 226:=trivial
 have hfS:Fence.wide.fn 227:=trivial
 refine callsIn_of_wp func150 rfl trivial ?_ rfl
 simp only [ntmps150,List.size_toArray,List.length_cons,List.length_nil,Nat.reduceAdd,Nat.reduceSub,Array.replicate_succ,Array.replicate_zero,List.push_toArray,List.append_toArray,List.nil_append,List.cons_append]
 gi_wp2_with (gi_at_call 226;refine (collectV_in Fence.wide (n-1) trivial trivial trivial rfl (by omega) Bs sv zs (by omega) (by omega) w hBs hcs hI).mono ?_;rintro e W ⟨v,rfl,hrow,hb⟩)
 rcases hrow.2 with ⟨rfl,hz⟩ | ⟨gb,cap,cur,rfl,hbase,hgb,r1,r2,r3,r4⟩
 . obtain rfl:zs=[]:=List.eq_nil_of_length_eq_zero hz
   gi_wp2_with (gi_at_call 227;refine ((sortsI (n-1)).2 none 0 W).mono ?_;rintro e w' ⟨rfl,rfl⟩)
   go_ret
   exact⟨_,rfl,by simpa [srt] using hrow,hb⟩
 . have hH:Holds (Value.int .i64) W gb 0 zs.toArray:=holds_of_block_i hgb (by simpa using r4)
   have hgl:gb<W.heap.size:=(Array.getElem?_eq_some_iff.1 hgb).1
   have cS:=(sortsI (n-1)).1 gb 0 cap zs W hH hgl (by omega)
   gi_wp2_with (gi_at_call 227;refine cS.mono ?_;rintro e w' ⟨rfl,nn,os,rfl⟩)
   go_ret
   exact⟨_,rfl,ownsRow_sorted_i (by simp) hbase hgb r1 r2 r3,hb.grown (grownBy_sorted_i _) hb.size (fun j hj=>by cases hj;exact hbase)⟩
def IntsR (rows:List Row)(v:Value)(zs:List Int):Prop:=
 (∃ A cap,v=.slice A 0 cap/\zs=[])\/∃ b o cap t l,v=.slice (some ⟨b,o,none⟩) zs.length cap/\cr b t l∈rows/\∀ j z,zs[j]?=some z->l[o+j]?=some (.int .i64 z)
theorem IntsR.at {B:Nat}{rows:List Row}{v:Value}{zs:List Int}{w:World}(h:IntsR rows v zs)(hp:RowsOk B rows w):IntsAt w.heap.size w v zs:=by
 rcases h with h | ⟨b,o,cap,t,l,rfl,hm,hx⟩
 . exact .inl h
 . have hb:=(hp.2 _ hm).2
   refine .inr ⟨b,o,cap,rfl,row_lt hb,fun j hj=>?_⟩
   have h1:=hx j zs[j] (by simp [hj])
   simp only at hb
   simp [World.cell?,hb,hj,h1]
section
variable (W:World)(B:Nat)
theorem sorted_vals (bx tm:Nat)(v:Value)(zs:List Int)(rows:List Row)(hI:IntsR rows v zs)(hl:zs.length<=1000000) :
  Spec prog W B 150 [.func (.func 350) #[] #[ptr bx]] ([cr bx tm [v]]++rows) (fun r post=>∃ c2,OwnS 3 1 r zs.length ((srt zs).map i64k) c2/\post=c2++([cr bx tm [v]]++rows)):=by
 refine spec_of_below fun w hp=>?_
 have hbx:w.heap[bx]?=some (.cells #[v] tm (0,0)):=(hp.2 (cr bx tm [v]) (by simp)).2
 have hIw:IntsAt w.heap.size w v zs:=IntsR.at (rows:=[cr bx tm [v]]++rows) (by
  rcases hI with h | ⟨b,o,cap,t,l,h1,h2,h3⟩
  . exact .inl h
  . exact .inr ⟨b,o,cap,t,l,h1,List.mem_append_right _ h2,h3⟩) hp
 refine (callsIn_wide.1 (sortedV_in 5 (by omega) bx v zs hl w (row_lt hbx) (by simp [World.cell?,hbx]) hIw)).mono ?_
 rintro e w' ⟨r,rfl,hrow,hb⟩
 obtain⟨c2,ho2,hn,hr⟩:=ownS_of_row hrow
 exact⟨r,c2,rfl,⟨c2,ho2,rfl⟩,hb,hn,hr⟩
end
open Go.RowKit
theorem OwnS.ints {rows:List Row}{t:TypeId}{v:Value}{zs:List Int}{ch:List Row}(o:OwnS t 1 v zs.length (zs.map i64k) ch)(h:∀ r∈ch,r∈rows):IntsR rows v zs:=by
 rcases o with ⟨rfl,h0,_,_⟩ | ⟨b,cap,slack,rfl,hl,hc,hs,rfl⟩
 . exact .inl ⟨none,0,rfl,List.eq_nil_of_length_eq_zero h0⟩
 . refine .inr ⟨b,0,cap,t,zs.map i64k++slack,rfl,h _ (List.mem_singleton.2 rfl),fun j z hz=>?_⟩
   have hj:=(List.getElem?_eq_some_iff.1 hz).1
   rw [Nat.zero_add,List.getElem?_append_left (by simpa using hj),List.getElem?_map,hz];rfl
theorem i64k_one (zs:List Int):∀ u∈zs.map i64k,u.oneCell'=true:=by
 intro u hu
 obtain⟨y,_,rfl⟩:=List.mem_map.1 hu
 rfl
def sumL:List (Value×List Int)->Nat
 | []=>0
 | x::r=>x.2.length+sumL r
def catL:List (Value×List Int)->List Int
 | []=>[]
 | x::r=>x.2++catL r
section
variable (W:World)(B:Nat)
theorem slices_Grow0 (m:Nat)(hm:m<=1000000):Spec prog W B 349 [.slice none 0 0,iN m] [] (fun r post=>OwnS 3 1 r 0 [] post):=by
 by_cases h0:m=0
 . subst h0
   refine Spec.eG [] func349 ntmps349 fun w0=>?_
   refine CW.go uq 9 rfl (LW.lssF ?_)
   refine LW.go uq 10 rfl (LW.capS rfl underlying85 rfl ?_)
   refine LW.go uq 2 rfl (LW.sub (0) rfl rfl w6 rfl ?_)
   refine LW.sub (0) rfl rfl w6 rfl ?_
   refine LW.go uq 6 rfl (LW.gtrF ?_)
   refine LW.go uq 12 rfl ?_
   refine NW.r1 ⟨_,OwnS.nil,?_⟩
   exact Sub.nil _
 ·
   refine Spec.eG [] func349 ntmps349 fun w0=>?_
   refine CW.go uq 9 rfl (LW.lssF ?_)
   refine LW.go uq 10 rfl (LW.capS rfl underlying85 rfl ?_)
   refine LW.go uq 2 rfl (LW.sub (0) rfl rfl w6 rfl ?_)
   refine LW.sub ((m:Int)) rfl rfl w6 rfl ?_
   refine LW.go uq 6 rfl (LW.gtrT ?_)
   refine LW.go uq 6 rfl (LW.capS rfl underlying85 rfl ?_)
   refine LW.cutTo (0) rfl rfl underlying85 szt3 (by omega) (by omega) rfl ?_
   refine LW.go uq 1 rfl (LW.appendZ (m:=0) (k:=m) rfl rfl underlying85 underlying3 info3 rfl rfl OwnS.nil (Take.none _) (by omega) (by omega) (by omega) rfl ?_)
   intro v' ch' ho'
   obtain⟨A,cp,rfl,hA,hc⟩:=ho'.val
   refine LW.go uq 2 rfl (LW.cutTo (0) rfl rfl underlying85 szt3 (by omega) (by omega) rfl ?_)
   refine LW.go uq 10 rfl ?_
   refine NW.ret1 rfl rfl ⟨_,by have:=ho'.cutTo (m':=0) (Nat.zero_le _);simpa using this,?_⟩
   exact Sub.one .t
theorem slices_Concat (b2:Nat)(vs:List (Value×List Int))(rows:List Row)(hv:∀ x∈vs,SlAt W B rows x.1 x.2.length (x.2.map i64k) 1)(hn:vs.length<=1000)(hs:sumL vs<=100000) :
   Spec prog W B 308 [.slice (sA b2) vs.length vs.length] ([cr b2 85 (vs.map (·.1))]++rows) (fun r post=>∃ ch,OwnS 3 1 r (sumL vs) ((catL vs).map i64k) ch/\post=ch++([cr b2 85 (vs.map (·.1))]++rows)):=by
 have hat:∀ i x,vs[i]?=some x->(vs.map (·.1))[0+i*1]?=some x.1:=fun i x h=>by rw [Nat.zero_add,Nat.mul_one,List.getElem?_map,h];rfl
 refine Spec.eG [[cr b2 85 (vs.map (·.1))],rows] func308 ntmps308 fun w0=>?_
 refine CW.go uq 19 rfl ?_
 refine CW.loopG (fun st:Nat×Nat=>[(11,iN st.1),(10,iN vs.length),(9,.slice (sA b2) vs.length vs.length),(3,iN st.2),(0,.slice (sA b2) vs.length vs.length)]) (fun _=>[[cr b2 85 (vs.map (·.1))],rows]) (fun st=>st.1<=vs.length/\st.2+sumL (vs.drop st.1)=sumL vs) (fun st=>vs.length-st.1) (0,0) (by exact⟨Nat.zero_le _,by simp⟩) rfl (by repeat' constructor) ?_
 rintro⟨i,m⟩ ⟨hi,hx⟩;dsimp only at hi hx |-
 refine CW.go uq 2 rfl (LW.lss (decide ((i:Int)<(vs.length:Int))) rfl rfl (rfl) rfl ?_)
 refine LW.go uq 3 rfl ?_
 refine CW.cond rfl (fun hc12=>?_) (fun hc12=>?_)
 . have hin:i<vs.length:=oT hc12
   obtain⟨x,hxi,hxd⟩:=drop_at hin
   obtain⟨A,cp,hxv,hcp,hl,hsrc,hA⟩:=hv x (List.mem_of_getElem? hxi)
   rw [hxd,sumL] at hx
   have hx1:=hat i x hxi
   rw [hxv] at hx1
   refine CW.go uq 6 rfl (LW.indexAddr (0+i*1) rfl rfl underlying433 ixs433 (by omega) (by omega) (by simp) rfl ?_)
   refine LW.load (v:=.slice A x.2.length cp) rfl .t (hx1) one85 rfl ?_
   refine LW.go uq 8 rfl (LW.ad (((m+x.2.length:Nat):Int)) ?_)
   refine LW.go uq 6 rfl (LW.lssF ?_)
   refine LW.go uq 7 rfl (LW.ad ((i+1:Int)) ?_)
   exact LW.go uq 2 rfl (NW.mG ((i+1,m+x.2.length)) (by exact⟨⟨by omega,by dsimp only;omega⟩,by dsimp only;omega⟩))
 . have hin:i=vs.length:=oF hc12
   rw [hin,List.drop_length,sumL] at hx
   refine CW.go uq 2 rfl (NW.then_exit (NW.go uq 5 rfl (LW.cT (slices_Grow0 W B m (by omega)) cl349 (Take.none _) ?_)))
   rintro r post hg
   refine LW.go uq 12 rfl ?_
   refine CW.loopG (fun st:Nat×Nat×List Int×Value×List Row=>[(27,iN st.1),(26,iN vs.length),(25,.slice (sA b2) vs.length vs.length),(6,st.2.2.2.1)]) (fun st=>[st.2.2.2.2,[cr b2 85 (vs.map (·.1))],rows]) (fun st=>st.1<=vs.length/\OwnS 3 1 st.2.2.2.1 st.2.1 (st.2.2.1.map i64k) st.2.2.2.2/\st.2.1+sumL (vs.drop st.1)=sumL vs/\st.2.2.1++catL (vs.drop st.1)=catL vs) (fun st=>vs.length-st.1) (0,0,[],r,post) (by exact⟨Nat.zero_le _,hg,by simp,by simp⟩) rfl (by repeat' constructor) ?_
   rintro⟨j,q,zs,u,ch⟩ ⟨hj,ho,hy,hz⟩;dsimp only at hj ho hy hz |-
   refine CW.go uq 2 rfl (LW.lss (decide ((j:Int)<(vs.length:Int))) rfl rfl (rfl) rfl ?_)
   refine LW.go uq 3 rfl ?_
   refine CW.cond rfl (fun hc28=>?_) (fun hc28=>?_)
   . have hjn:j<vs.length:=oT hc28
     obtain⟨x,hxi,hxd⟩:=drop_at hjn
     obtain⟨A,cp,hxv,hcp,hl,hsrc,hA⟩:=hv x (List.mem_of_getElem? hxi)
     rw [hxd,sumL] at hy
     rw [hxd,catL] at hz
     have hx1:=hat j x hxi
     rw [hxv] at hx1
     refine CW.go uq 6 rfl (LW.indexAddr (0+j*1) rfl rfl underlying433 ixs433 (by omega) (by omega) (by simp) rfl ?_)
     refine LW.load (v:=.slice A x.2.length cp) rfl .t (hx1) one85 rfl ?_
     refine LW.go uq 6 rfl (LW.append (x.2.map i64k) rfl rfl underlying85 underlying85 (.inr ⟨_,rfl⟩) info3 rfl (ho) .t (fun _=>lenOf_slice _ _ _ _) (first_rd (hsrc.rd .t) hl hA) (hl) (i64k_one _) (by omega) (by omega) rfl ?_)
     intro v' ch' ho'
     refine LW.go uq 5 rfl (LW.ad ((j+1:Int)) ?_)
     exact LW.go uq 2 rfl (NW.mG ((j+1,q+x.2.length,zs++x.2,v',ch')) (by exact⟨⟨by omega,by dsimp only;rw [List.map_append];exact ho',by dsimp only;omega,by dsimp only;rw [List.append_assoc];exact hz⟩,by dsimp only;omega⟩))
   . have hjn:j=vs.length:=oF hc28
     rw [hjn,List.drop_length,sumL,Nat.add_zero] at hy
     rw [hjn,List.drop_length,catL,List.append_nil] at hz
     refine CW.go uq 2 rfl (NW.then_exit (NW.go uq 9 rfl ?_))
     refine NW.ret1 rfl rfl ⟨_,⟨ch,by rw [<- hy,<- hz];exact ho,rfl⟩,?_⟩
     exact .s3
end
open Go.RowKit
theorem OwnMap.shape {κ:Type}{enc:κ->Value}{v:Value}{l:List (κ×Value)}{ch:List Row}(o:OwnMap enc v l ch):∃ b,v=.map (some b):=by
 obtain⟨b,es,clock,rfl,_⟩:=o
 exact⟨b,rfl⟩
theorem OwnS.cells1 {t:TypeId}{sz:Nat}{v:Value}{m:Nat}{xs:List Value}{ch:List Row}(o:OwnS t sz v m xs ch):v.cells.toList=[v]:=by
 obtain⟨A,cp,rfl,_⟩:=o.val
 rfl
def PoolR (p nf:Nat)(l:List (Int×Value))(rows:List Row):Prop:=
 ∃ (v mv:Value) (fl:List Int) (chf chm:List Row),OwnS 3 1 v nf (fl.map i64k) chf/\fl.length=nf/\OwnMap i64k mv l chm/\rows=[cr p 371 [v,mv]]++(chf++chm)/\nf<=1000
theorem cutInts {t:TypeId}{A:Option Addr}{nf cp k:Nat}{fl:List Int}{ch:List Row}(o:OwnS t 1 (.slice A nf cp) nf (fl.map i64k) ch)(hl:fl.length=nf)(hk:k<=nf):IntsR ch (.slice (cutA A cp k 1) (nf-k) (cp-k)) (fl.drop k):=by
 have hdl:(fl.drop k).length=nf-k:=by simp [hl]
 by_cases h0:nf-k=0
 . exact .inl ⟨_,_,by rw [h0],List.eq_nil_of_length_eq_zero (by omega)⟩
 . rcases o with ⟨hv,h1,_,_⟩ | ⟨b,cap,slack,hv,hxl,hc,hs,rfl⟩
   . omega
   . injection hv with h1 h2 h3
     subst h1 h3
     refine .inr ⟨b,k,cp-k,t,fl.map i64k++slack,?_,List.mem_singleton.2 rfl,fun j z hz=>?_⟩
     . rw [cutA,if_neg (by omega),hdl,Option.map_some,Addr.add_lit];simp
     . rw [List.getElem?_drop] at hz
       have hj:=(List.getElem?_eq_some_iff.1 hz).1
       rw [List.getElem?_append_left (by simpa using hj),List.getElem?_map,hz];rfl
theorem srt_len (l:List Int):(srt l).length=l.length:=List.length_mergeSort _
section
variable (W:World)(B:Nat)
theorem slices_Values (v:Value)(h1:v.cells.toList=[v]):Spec prog W B 309 [v] [] (fun r post=>∃ bx,r=.func (.func 350) #[] #[ptr bx]/\post=[cr bx 85 [v]]):=by
 refine Spec.eG [] func309 ntmps309 fun w0=>?_
 refine CW.go uq 2 rfl (LW.bx ?_)
 intro bb1
 refine LW.go uq 5 rfl (LW.makeFn (vs:=[]) (us:=[ptr bb1]) trivial ⟨rfl,trivial⟩ rfl ?_)
 refine LW.go uq 4 rfl ?_
 refine NW.r1 ⟨_,⟨bb1,rfl,rfl⟩,?_⟩
 rw [show [cr bb1 85 [v]]=[cr bb1 85 v.cells.toList] by rw [h1]];exact Sub.one .t
theorem pool_New (m:Nat)(hm:m<=1000):Spec prog W B 262 [iN m] [] (fun r post=>∃ p,r=ptr p/\PoolR p m [] post):=by
 refine Spec.eG [] func262 ntmps262 fun w0=>?_
 refine CW.go uq 7 rfl (LW.mapMakeG i64k rfl ?_)
 intro mv chm hom;obtain⟨bm,hbm⟩:=hom.shape;subst hbm
 refine LW.bd [_] (#[.slice none 0 0,.map (some bm)]) ?_
 refine LW.bx ?_
 intro bb7
 refine LW.go uq 7 rfl (LW.max2 (m:Int) rfl rfl (by split<;>omega) rfl ?_)
 refine LW.min2 ((m:Int)) rfl rfl (by split<;>omega) rfl ?_
 refine LW.go uq 4 rfl ?_
 refine CW.loopG (fun st:Nat×Value×List Int×List Row=>[(11,iN st.1),(10,iN m),(3,ptr bb7)]) (fun st=>[[cr bb7 371 [st.2.1,.map (some bm)]],st.2.2.2,chm]) (fun st=>st.1<=m/\st.2.2.1.length=st.1/\OwnS 3 1 st.2.1 st.1 (st.2.2.1.map i64k) st.2.2.2) (fun st=>m-st.1) (0,.slice none 0 0,[],[]) (by exact⟨Nat.zero_le _,rfl,OwnS.nil⟩) rfl (by repeat' constructor) ?_
 rintro⟨i,v,fl,ch⟩ ⟨hi,hfl,ho⟩;dsimp only at hi hfl ho |-
 refine CW.go uq 2 rfl (LW.lss (decide ((i:Int)<(m:Int))) rfl rfl (rfl) rfl ?_)
 refine LW.go uq 3 rfl ?_
 refine CW.cond rfl (fun hc12=>?_) (fun hc12=>?_)
 . have hin:i<m:=oT hc12
   refine CW.go uq 15 rfl (LW.ld one85 ?_)
   refine LW.go uq 1 rfl (LW.bs [_] underlying85 info3 ?_)
   intro bs20
   refine LW.append ([iN i]) rfl rfl underlying85 underlying85 (.inr ⟨_,rfl⟩) info3 rfl (ho) .t (fun _=>lenOf_slice _ _ _ _) (first_rd (RdAt.row .t (fun j v hj=>by simpa using hj)) rfl (fun h=>by cases h)) (rfl) (by intro u hu;simp at hu;subst hu;rfl) (by omega) (by omega) rfl ?_
   intro v' ch' ho'
   refine LW.go uq 2 rfl (LW.store rfl rfl .t (by first | decide | exact Nat.lt_of_sub_pos (by rfl) | (simp;done) | simp [devHead]) sz85 (ho'.one) ?_)
   refine LW.go uq 4 rfl (LW.ad ((i+1:Int)) ?_)
   exact LW.go uq 2 rfl (NW.mG ((i+1,v',fl++[(i:Int)],ch')) (by exact⟨⟨by omega,by dsimp only;simp [hfl],by dsimp only;rw [List.map_append];exact ho'⟩,by dsimp only;omega⟩))
 . have hin:i=m:=oF hc12
   refine CW.go uq 2 rfl (NW.then_exit (NW.go uq 9 rfl ?_))
   refine NW.ret1 rfl rfl ⟨_,⟨_,rfl,v,_,fl,ch,chm,by rw [<- hin];exact ho,by omega,hom,rfl,hm⟩,?_⟩
   exact .s3
theorem pool_Size_no (p nf:Nat)(l:List (Int×Value))(rows:List Row)(owner:Int)(blocks:Nat)(hp:PoolR p nf l rows)(hmiss:mget l owner=none)(hb:blocks<=1000000)(hno:nf<blocks) :
  Spec prog W B 263 [ptr p,.int .i64 owner,iN blocks] rows (fun r post=>r=.int .i64 6/\PoolR p nf l post):=by
 obtain⟨v,mv,fl,chf,chm,ho,hfl,hom,rfl,hnf⟩:=hp
 obtain⟨A,cp,hv,hA,hc⟩:=ho.val
 subst hv
 refine Spec.eG [[cr p 371 [.slice A nf cp,mv]],chf,chm] func263 ntmps263 fun w0=>?_
 refine CW.go uq 9 rfl (LW.pn underlying318 ?_)
 refine LW.go uq 10 rfl (LW.ld one369 ?_)
 refine LW.go uq 1 rfl (LW.mapMiss1 rfl rfl keyInt (hom) .t underlying369 underlying3 zero85 (hmiss) rfl ?_)
 refine LW.go uq 8 rfl (LW.lssF ?_)
 refine LW.go uq 9 rfl (LW.sub ((blocks:Int)) rfl rfl w6 rfl ?_)
 refine LW.go uq 3 rfl (LW.ld one85 ?_)
 refine LW.go uq 1 rfl (LW.gtrT ?_)
 refine LW.go uq 12 rfl ?_
 refine NW.r1 ⟨_,⟨rfl,_,mv,fl,chf,chm,ho,hfl,hom,rfl,hnf⟩,?_⟩
 exact .s3
theorem pool_Size (p nf:Nat)(l:List (Int×Value))(rows:List Row)(owner:Int)(blocks:Nat)(hp:PoolR p nf l rows)(hmiss:mget l owner=none)(hno:blocks<=nf) :
   Spec prog W B 263 [ptr p,.int .i64 owner,iN blocks] rows (fun r post=>r=.int .i64 0/\∃ (u:Value) (c1 c2:List Row) (zs:List Int),post=c1++c2/\PoolR p (nf-blocks) (mset l owner u) c1/\OwnS 3 1 u blocks (zs.map i64k) c2):=by
 obtain⟨v,mv,fl,chf,chm,ho,hfl,hom,rfl,hnf⟩:=hp
 obtain⟨A,cp,hv,hA,hc⟩:=ho.val
 subst hv
 by_cases hb0:blocks=0
 . subst hb0
   refine Spec.eG [[cr p 371 [.slice A nf cp,mv]],chf,chm] func263 ntmps263 fun w0=>?_
   refine CW.go uq 9 rfl (LW.pn underlying318 ?_)
   refine LW.go uq 10 rfl (LW.ld one369 ?_)
   refine LW.go uq 1 rfl (LW.mapMiss1 rfl rfl keyInt (hom) .t underlying369 underlying3 zero85 (hmiss) rfl ?_)
   refine LW.go uq 8 rfl (LW.lssF ?_)
   refine LW.go uq 9 rfl (LW.sub (0) rfl rfl w6 rfl ?_)
   refine LW.go uq 3 rfl (LW.ld one85 ?_)
   refine LW.go uq 1 rfl (LW.gtrF ?_)
   refine LW.go uq 9 rfl (LW.gtrF ?_)
   refine LW.go uq 5 rfl (CW.drawT [cr p 371 [.slice A nf cp,mv]] 12 mixed ?_)
   refine AT.ts [(0,none),(1,none),(2,none),(3,none),(4,some []),(5,none),(6,none)] 6 (TT.mv ?_)
   refine TT.mv ?_
   refine TT.np ?_
   refine TT.fa fa371_0 ?_
   refine TT.ld one85 ?_
   refine TT.mv ?_
   refine TT.mv ?_
   refine TT.nil (AT.a 7 ?_)
   refine LW.cut (0) (0) (0) (some _) none none rfl underlying85 szt3 (fun a hf=>congrArg some (hf.eval rfl)) (fun a hf=>rfl) (fun a hf=>rfl) (.inr ⟨_,rfl⟩) (.inl ⟨rfl,rfl,rfl⟩) (.inl ⟨rfl,rfl⟩) (by omega) (by omega) (by omega) (by omega) rfl ?_
   refine LW.nil (AT.b (AT.a 8 ?_))
   refine LW.buildSlice (vs:=[_,_]) ⟨rfl,rfl,trivial⟩ rfl (by intro u hu;simp at hu;rcases hu with rfl | rfl<;>rfl) underlying433 info85 rfl (by decide) (by decide) rfl ?_
   intro bs25
   refine LW.nil (AT.b (AT.a 9 ?_))
   refine LW.cT (slices_Concat W B bs25 [(.slice A nf cp,fl),(.slice none 0 0,[])] chf (by intro x hx;simp at hx;rcases hx with rfl | rfl;exact (by dsimp only;rw [hfl];exact ho.sl);exact SlAt.nil) (by simp) (by simp [sumL];omega)) cl308 .n2 ?_
   rintro r _ ⟨ch,ho2,rfl⟩;refine LW.splitA (LW.splitB ?_)
   have hs2:sumL [(Value.slice A nf cp,fl),(.slice none 0 0,[])]=fl.length:=by simp [sumL]
   have hc2:catL [(Value.slice A nf cp,fl),(.slice none 0 0,[])]=fl:=by simp [catL]
   rw [hs2,hc2] at ho2
   refine LW.nil (AT.b (AT.ts [(10,none),(11,none)] 1 (TT.np ?_)))
   refine TT.fa fa371_0 ?_
   refine TT.nil (AT.a 12 ?_)
   refine LW.store rfl rfl .t (by first | decide | exact Nat.lt_of_sub_pos (by rfl) | (simp;done) | simp [devHead]) sz85 (ho2.one) ?_
   refine LW.nil (AT.backK (by kernel_rfl) ?_)
   refine AT.done (by kernel_rfl) ?_
   refine NW.go uq 5 rfl (LW.cut (0) (0) (0) none (some _) (some _) rfl underlying85 szt3 (fun a hf=>rfl) (fun a hf=>congrArg some (hf.eval rfl)) (fun a hf=>congrArg some (hf.eval rfl)) (.inl ⟨rfl,rfl⟩) (.inr ⟨_,rfl⟩) (.inr ⟨_,rfl⟩) (by omega) (by omega) (by omega) (by omega) rfl ?_)
   refine LW.go uq 10 rfl (LW.ld one85 ?_)
   refine LW.cT (slices_Values W B r ho2.cells1) cl309 (Take.none _) ?_
   rintro _ _ ⟨bx,rfl,rfl⟩
   refine LW.cT (sorted_vals W B bx _ r fl ch (ho2.ints fun _ h=>h) (by omega)) cl150 .n2 ?_
   rintro r2 _ ⟨c3,ho3,rfl⟩;refine LW.splitA (LW.splitB ?_)
   refine LW.go uq 2 rfl (LW.store rfl rfl .t (by first | decide | exact Nat.lt_of_sub_pos (by rfl) | (simp;done) | simp [devHead]) sz85 (ho3.one) ?_)
   refine LW.go uq 3 rfl (CW.drawH [cr p 371 [r2,mv]] mixed ?_)
   refine AW.ts [0,1,2,3,4,5] 3 (TW.mv ?_)
   refine TW.np ?_
   refine TW.fa fa371_1 ?_
   refine TW.ld one369 ?_
   refine TW.mv ?_
   refine TW.mv ?_
   refine TW.nil (AW.a 6 ?_)
   refine LW.cT (slices_Values W B _ rfl) cl309 (Take.none _) ?_
   rintro _ _ ⟨bx2,rfl,rfl⟩
   refine LW.nil (AW.b (AW.a 7 ?_))
   refine LW.cT (sorted_vals W B bx2 _ _ [] [] (.inl ⟨_,_,rfl,rfl⟩) (by simp)) cl150 (Take.both .t (Take.none _)) ?_
   rintro r4 _ ⟨c4,ho4,rfl⟩;refine LW.splitA ?_
   refine LW.nil (AW.b (AW.a 8 ?_))
   refine LW.mapSetG rfl rfl rfl keyInt (hom) .t underlying369 underlying3 ?_
   intro chm' hom'
   refine LW.nil (AW.b (AW.d ?_))
   refine NW.go uq 7 rfl ?_
   refine NW.ret1 rfl rfl ⟨_,⟨rfl,r4,[cr p 371 [r2,mv]]++(c3++chm'),c4,srt [],rfl,⟨r2,mv,srt fl,c3,chm',by rw [hfl] at ho3;exact ho3,by rw [srt_len];omega,hom',rfl,by omega⟩,ho4⟩,?_⟩
   exact Sub.trans (b:=[cr p 371 [r2,mv]]++(c3++(chm'++c4))) (Sub.of_perm (by simp)) .s4
 . have hbl:(fl.take blocks).length=blocks:=by rw [List.length_take];omega
   have hcut:=cutInts (cp:=cp) ho hfl hno
   refine Spec.eG [[cr p 371 [.slice A nf cp,mv]],chf,chm] func263 ntmps263 fun w0=>?_
   refine CW.go uq 9 rfl (LW.pn underlying318 ?_)
   refine LW.go uq 10 rfl (LW.ld one369 ?_)
   refine LW.go uq 1 rfl (LW.mapMiss1 rfl rfl keyInt (hom) .t underlying369 underlying3 zero85 (hmiss) rfl ?_)
   refine LW.go uq 8 rfl (LW.lssF ?_)
   refine LW.go uq 9 rfl (LW.sub ((blocks:Int)) rfl rfl w6 rfl ?_)
   refine LW.go uq 3 rfl (LW.ld one85 ?_)
   refine LW.go uq 1 rfl (LW.gtrF ?_)
   refine LW.go uq 9 rfl (LW.gtrT ?_)
   refine LW.go uq 9 rfl (LW.sub ((blocks:Int)) rfl rfl w6 rfl ?_)
   refine LW.go uq 9 rfl (LW.ld one85 ?_)
   refine LW.go uq 1 rfl (LW.cutTo (blocks) rfl rfl underlying85 szt3 (by omega) (by omega) rfl ?_)
   refine LW.append ((fl.take blocks).map i64k) rfl rfl underlying85 underlying85 (.inr ⟨_,rfl⟩) info3 rfl (OwnS.nil) (Take.none _) (fun _=>lenOf_slice _ _ _ _) (first_rd (by rw [List.map_take];exact (ho.src.rd .t).sub _) (by rw [List.length_map,hbl,Nat.mul_one]) (fun h=>by have:=hA h;omega)) (by rw [List.length_map,hbl,Nat.mul_one]) (i64k_one _) (by omega) (by omega) rfl ?_
   intro v' ch' ho2
   rw [Nat.zero_add,List.nil_append] at ho2
   refine LW.go uq 8 rfl (LW.ld one85 ?_)
   refine LW.go uq 1 rfl (LW.cut (blocks) (nf) (cp) (some _) none none rfl underlying85 szt3 (fun a hf=>congrArg some (hf.eval rfl)) (fun a hf=>rfl) (fun a hf=>rfl) (.inr ⟨_,rfl⟩) (.inl ⟨rfl,rfl,rfl⟩) (.inl ⟨rfl,rfl⟩) (by omega) (by omega) (by omega) (by omega) rfl ?_)
   refine LW.go uq 2 rfl (LW.sr sz85 ?_)
   refine LW.go uq 9 rfl (LW.ld one85 ?_)
   refine LW.cT (slices_Values W B _ rfl) cl309 (Take.none _) ?_
   rintro _ _ ⟨bx,rfl,rfl⟩
   refine LW.cT (sorted_vals W B bx _ _ (fl.drop blocks) chf hcut (by simp;omega)) cl150 .n2 ?_
   rintro r2 _ ⟨c3,ho3,rfl⟩;refine LW.splitA (LW.splitB ?_)
   refine LW.go uq 2 rfl (LW.store rfl rfl .t (by first | decide | exact Nat.lt_of_sub_pos (by rfl) | (simp;done) | simp [devHead]) sz85 (ho3.one) ?_)
   refine LW.go uq 3 rfl (CW.drawH [cr p 371 [r2,mv]] mixed ?_)
   refine AW.ts [0,1,2,3,4,5] 3 (TW.mv ?_)
   refine TW.np ?_
   refine TW.fa fa371_1 ?_
   refine TW.ld one369 ?_
   refine TW.mv ?_
   refine TW.mv ?_
   refine TW.nil (AW.a 6 ?_)
   refine LW.cT (slices_Values W B v' ho2.cells1) cl309 (Take.none _) ?_
   rintro _ _ ⟨bx2,rfl,rfl⟩
   refine LW.nil (AW.b (AW.a 7 ?_))
   refine LW.cT (sorted_vals W B bx2 _ v' (fl.take blocks) ch' (OwnS.ints (t:=3) (by rw [hbl];simpa using ho2) fun _ h=>h) (by omega)) cl150 .n2 ?_
   rintro r4 _ ⟨c4,ho4,rfl⟩;refine LW.splitA (LW.splitB ?_)
   refine LW.nil (AW.b (AW.a 8 ?_))
   refine LW.mapSetG rfl rfl rfl keyInt (hom) .t underlying369 underlying3 ?_
   intro chm' hom'
   refine LW.nil (AW.b (AW.d ?_))
   refine NW.go uq 7 rfl ?_
   refine NW.ret1 rfl rfl ⟨_,⟨rfl,r4,[cr p 371 [r2,mv]]++(c3++chm'),c4,srt (fl.take blocks),rfl,⟨r2,mv,srt (fl.drop blocks),c3,chm',by rw [List.length_drop,hfl] at ho3;exact ho3,by rw [srt_len,List.length_drop];omega,hom',rfl,by omega⟩,by rw [hbl] at ho4;exact ho4⟩,?_⟩
   exact Sub.trans (b:=[cr p 371 [r2,mv]]++(c3++(chm'++c4))) (Sub.of_perm (by simp)) .s4
theorem pool_Free (p nf:Nat)(l:List (Int×Value))(rows:List Row)(hp:PoolR p nf l rows):Spec prog W B 205 [ptr p] rows (fun r post=>r=iN nf/\PoolR p nf l post):=by
 obtain⟨v,mv,fl,chf,chm,ho,hfl,hom,rfl,hnf⟩:=hp
 obtain⟨A,cp,hv,hA,hc⟩:=ho.val
 subst hv
 refine Spec.eG [[cr p 371 [.slice A nf cp,mv]],chf,chm] func205 ntmps205 fun w0=>?_
 refine CW.go uq 9 rfl (LW.pn underlying318 ?_)
 refine LW.go uq 10 rfl (LW.ld one85 ?_)
 refine LW.go uq 5 rfl ?_
 refine NW.r1 ⟨_,⟨rfl,_,mv,fl,chf,chm,ho,hfl,hom,rfl,hnf⟩,?_⟩
 exact .s3
theorem pool_Of (p nf:Nat)(l:List (Int×Value))(rows ru:List Row)(owner:Int)(u:Value)(m:Nat)(xs:List Int)(hp:PoolR p nf l rows)(hit:mget l owner=some u)(hu:SlAt W B ru u m (xs.map i64k) 1)(hm:m<=1000000) :
  Spec prog W B 378 [ptr p,.int .i64 owner] (rows++ru) (fun r post=>∃ ch,OwnS 3 1 r m (xs.map i64k) ch/\PoolR p nf l rows/\post=ch++(rows++ru)):=by
 have hp':=hp
 obtain⟨v,mv,fl,chf,chm,ho,hfl,hom,rfl,hnf⟩:=hp
 refine Spec.eG [[cr p 371 [v,mv]],chf,chm,ru] func378 ntmps378 fun w0=>?_
 refine CW.go uq 9 rfl (LW.pn underlying318 ?_)
 refine LW.go uq 10 rfl (LW.ld one369 ?_)
 refine LW.go uq 1 rfl (LW.mapHit1 (u:=u) rfl rfl keyInt (hom) .t underlying369 underlying3 zero85 (hit) rfl ?_)
 refine LW.cG (cl_174 W B ru u m (xs.map i64k) hu (i64k_one _) hm) cl174 ?_
 rintro r _ ⟨ch,ho2,rfl⟩;refine LW.splitA ?_
 refine LW.go uq 4 rfl ?_
 refine NW.r1 ⟨_,⟨ch,ho2,hp',rfl⟩,?_⟩
 exact Sub.trans (b:=ch++([cr p 371 [v,mv]]++(chf++(chm++ru)))) (Sub.of_perm (by simp)) .s5
end
end Go.Proofs.YtnlpccoigflheaaGreatDoor
