/- Bin2 Bin3 Bin4 Ext ErrF -/
import Derived.Test.YtnlpccoigflheaaGreatDoorBin1
import Derived.Test.YtnlpccoigflheaaGreatDoorDev2
import Derived.Stop.Asserts
import Derived.LaidEql
import Derived.Test.YtnlpccoigflheaaGreatDoorProg
import Derived.RowKitTokens
import Derived.Test.YtnlpccoigflheaaGreatDoorFac
namespace Go.Proofs.YtnlpccoigflheaaGreatDoor
open Go.RowKit
open Tryz
def Tuk:Tbl:=⟨[(99,0,0),(301,0,0),(301,1,1)],[],[65]⟩
theorem uk:Tuk.Ok Tryz.prog:=.of (⟨⟨_,Tryz.underlying65⟩,trivial⟩)
section
variable (W:World)(B:Nat)
theorem bin_WText (w:Nat)(v:Value)(bs:List UInt8)(ch:List Row)(ho:OwnB v bs ch)(s:List UInt8)(hb:bs.length+9+s.length<=1000000000) :
  Spec prog W B 41 [ptr w,strV s] ([cr w 99 [v]]++ch)
   (fun r post=>r=.tuple #[]/\∃ v' ch',OwnB v' (bs++encZ (s.length:Int)++s) ch'/\post=[cr w 99 [v']]++ch'):=by
 have hI:I64 (s.length:Int):=⟨by omega,by omega⟩
 have hel:=sizeZ_le (s.length:Int)
 have hl:(encZ (s.length:Int)).length<=9:=by rw [encZ_len];omega
 refine Spec.eG [[cr w 99 [v]],ch] func41 ntmps41 fun w0=>?_
 refine CW.go uk 3 rfl (LW.ptrNotNil _ rfl underlying103 rfl rfl ?_)
 refine LW.go uk 7 rfl (LW.lenString rfl underlying9 rfl ?_)
 refine LW.bs [_] underlying166 info2 ?_
 intro bs9
 refine LW.cT (bin_WInt W B w v bs ch ho [(s.length:Int)] (by intro n hn;simp at hn;subst hn;exact hI) [cr bs9 2 [iN s.length]] (some ⟨bs9,0,none⟩) 1 (Src.row zd) (by simp;omega)) cl40 .n3 ?_
 rintro _ _ ⟨rfl,v1,ch1,ho1,rfl⟩;refine LW.split2 (LW.split2p ?_)
 refine LW.go uk 2 rfl ?_
 have he1:encs [(s.length:Int)]=encZ (s.length:Int):=by simp [encs]
 rw [he1] at ho1
 refine CW.go uk 5 rfl (LW.ld one65 ?_)
 refine LW.go uk 1 rfl (LW.append (s.map u8v) rfl rfl underlying65 underlying9 (.inl rfl) info5 rfl (ho1) .t (fun _=>lenOf_string _ _) (fun w' _=>first_string _ _) (by simp [ByteArray.size]) (u8vs_one _) (by simp only [List.length_append,List.size_toArray,ByteArray.size];omega) (by simp only [List.length_append,List.size_toArray,ByteArray.size];omega) rfl ?_)
 intro v4 ch4 ho4;have hv4:=OwnS.one ho4;replace ho4:=OwnB.app ho4 rfl rfl
 refine LW.go uk 2 rfl (LW.store rfl rfl .t (by exact Nat.one_pos) sz65 (hv4) ?_)
 refine LW.go uk 1 rfl ?_
 refine NW.end0 rfl  ⟨_,⟨rfl,v4,ch4,ho4,rfl⟩,?_⟩
 exact Sub.take (p:=[_]) .t (Sub.one .t)
theorem bin_WBytes (w:Nat)(v:Value)(bs:List UInt8)(ch:List Row)(ho:OwnB v bs ch)(hb:bs.length<=1000000000) :
  Spec prog W B 43 [ptr w] ([cr w 99 [v]]++ch)
   (fun r post=>∃ ch',OwnB r bs ch'/\post=ch'++([cr w 99 [v]]++ch)):=by
 obtain⟨A,cp,rfl,hA,hc⟩:=OwnS.val ho
 refine Spec.eG [[cr w 99 [.slice A bs.length cp]],ch] func43 ntmps43 fun w0=>?_
 refine CW.go uk 9 rfl (LW.pn underlying103 ?_)
 refine LW.go uk 10 rfl (LW.ld one65 ?_)
 refine LW.append (bs.map u8v) rfl rfl underlying65 underlying65 (.inr ⟨_,rfl⟩) info5 rfl (OwnB.nil) (Take.none _) (fun _=>lenOf_slice _ _ _ _) (first_rd ((OwnS.src (W:=W) (B:=B) ho).rd .t) (by simp) hA) (by simp) (u8vs_one _) (by simp only [List.length_nil];omega) (by simp only [List.length_nil];omega) rfl ?_
 intro v4 ch4 ho4;replace ho4:=OwnB.app ho4 rfl rfl
 refine LW.go uk 4 rfl ?_
 refine NW.r1 ⟨_,⟨ch4,ho4,rfl⟩,?_⟩
 exact Sub.take .t (Sub.take (p:=[_]) .t (Sub.one .t))
theorem bin_NewReader (src:List Row)(A:Option Addr)(cp:Nat)(bs:List UInt8)(hsrc:Src W B src A (bs.map u8v))(hA:A=none->bs.length=0)(hb:bs.length<=1000000000) :
  Spec prog W B 114 [.slice A bs.length cp] src
   (fun r post=>∃ p v ch,r=ptr p/\RdS W B v bs ch/\post=src++([cr p 301 [v,.bool false]]++ch)):=by
 refine Spec.eG [src] func114 ntmps114 fun w0=>?_
 refine CW.go uk 8 rfl (LW.append (bs.map u8v) rfl rfl underlying65 underlying65 (.inr ⟨_,rfl⟩) info5 rfl (OwnB.nil) (Take.none _) (fun _=>lenOf_slice _ _ _ _) (first_rd (hsrc.rd .t) (by simp) hA) (by simp) (u8vs_one _) (by simp only [List.length_nil];omega) (by simp only [List.length_nil];omega) rfl ?_)
 intro v4 ch4 ho4;replace ho4:=OwnB.app ho4 rfl rfl;obtain⟨A4,cp4,rfl,_,_⟩:=OwnS.val ho4
 refine LW.bd [_] (#[.slice A4 bs.length cp4,.bool false]) ?_
 refine LW.bx ?_
 intro bb6
 refine LW.go uk 4 rfl ?_
 refine NW.r1 ⟨_,⟨bb6,_,ch4,rfl,RdS.of ho4,rfl⟩,?_⟩
 exact Sub.take (p:=src) .t (Sub.take (p:=[_]) .t (Sub.one .t))
theorem bin_Err (p:Nat)(v:Value)(bad:Bool)(ch:List Row) :
  Spec prog W B 116 [ptr p] ([cr p 301 [v,.bool bad]]++ch)
   (fun r post=>r=.int .i64 (if bad then 1 else 0)/\post=[cr p 301 [v,.bool bad]]++ch):=by
 cases bad
 ·
  refine Spec.eG [[cr p 301 [v,.bool false]],ch] func116 ntmps116 fun w0=>?_
  refine CW.go uk 9 rfl (LW.pn underlying203 ?_)
  refine LW.go uk 8 rfl (LW.ld one4 ?_)
  refine LW.go uk 12 rfl ?_
  refine NW.r1 ⟨_,⟨rfl,rfl⟩,?_⟩
  exact Sub.take (p:=[_]) .t (Sub.one .t)
 ·
  refine Spec.eG [[cr p 301 [v,.bool true]],ch] func116 ntmps116 fun w0=>?_
  refine CW.go uk 9 rfl (LW.pn underlying203 ?_)
  refine LW.go uk 8 rfl (LW.ld one4 ?_)
  refine LW.go uk 11 rfl ?_
  refine NW.r1 ⟨_,⟨rfl,rfl⟩,?_⟩
  exact Sub.take (p:=[_]) .t (Sub.one .t)
theorem bin_End (p:Nat)(v:Value)(bad:Bool)(bs:List UInt8)(ch:List Row)(hv:RdS W B v bs ch) :
   Spec prog W B 120 [ptr p] ([cr p 301 [v,.bool bad]]++ch)
     (fun r post=>r=.int .i64 (if bad then 1 else if bs.length=0 then 0 else 1)/\post=[cr p 301 [v,.bool bad]]++ch):=by
 obtain⟨A,cp,rfl,hc,hs⟩:=hv
 cases bad
 . rw [if_neg (by simp)]
   by_cases h0:bs.length=0
   . rw [if_pos h0]
     refine Spec.eG [[cr p 301 [.slice A bs.length cp,.bool false]],ch] func120 ntmps120 fun w0=>?_
     refine CW.go uk 9 rfl (LW.eT (bin_Err W B p (.slice A bs.length cp) false ch) cl116 .n2 ?_)
     refine LW.split2 ?_
     refine LW.neq false rfl rfl (rfl) rfl ?_
     refine LW.go uk 8 rfl (LW.ld one65 ?_)
     refine LW.go uk 3 rfl (LW.gtrF ?_)
     refine LW.go uk 12 rfl ?_
     refine NW.r1 ⟨_,⟨rfl,rfl⟩,?_⟩
     exact Sub.take (p:=[_]) .t (Sub.one .t)
   . rw [if_neg h0]
     refine Spec.eG [[cr p 301 [.slice A bs.length cp,.bool false]],ch] func120 ntmps120 fun w0=>?_
     refine CW.go uk 9 rfl (LW.eT (bin_Err W B p (.slice A bs.length cp) false ch) cl116 .n2 ?_)
     refine LW.split2 ?_
     refine LW.neq false rfl rfl (rfl) rfl ?_
     refine LW.go uk 8 rfl (LW.ld one65 ?_)
     refine LW.go uk 3 rfl (LW.gtrT ?_)
     refine LW.go uk 11 rfl ?_
     refine NW.r1 ⟨_,⟨rfl,rfl⟩,?_⟩
     exact Sub.take (p:=[_]) .t (Sub.one .t)
 . rw [if_pos rfl]
   refine Spec.eG [[cr p 301 [.slice A bs.length cp,.bool true]],ch] func120 ntmps120 fun w0=>?_
   refine CW.go uk 9 rfl (LW.eT (bin_Err W B p (.slice A bs.length cp) true ch) cl116 .n2 ?_)
   refine LW.split2 ?_
   refine LW.neq true rfl rfl (rfl) rfl ?_
   refine LW.go uk 18 rfl ?_
   refine NW.r1 ⟨_,⟨rfl,rfl⟩,?_⟩
   exact Sub.take (p:=[_]) .t (Sub.one .t)
end
open Go.RowKit
section
variable (W:World)(B:Nat)
theorem bin_RInt_bad (p:Nat)(v:Value)(ch:List Row):Spec prog W B 115 [ptr p] ([cr p 301 [v,.bool true]]++ch)
  (fun r post=>r=.int .i64 0/\post=[cr p 301 [v,.bool true]]++ch):=by
 refine Spec.eG [[cr p 301 [v,.bool true]],ch] func115 ntmps115 fun w0=>?_
 refine CW.go uk 9 rfl (LW.eT (bin_Err W B p v true ch) cl116 .n2 ?_)
 refine LW.split2 ?_
 refine LW.neq true rfl rfl (rfl) rfl ?_
 refine LW.go uk 10 rfl ?_
 refine NW.r1 ⟨_,⟨rfl,rfl⟩,?_⟩
 exact Sub.take (p:=[_]) .t (Sub.one .t)
theorem bin_RInt (p:Nat)(v:Value)(bs:List UInt8)(ch:List Row)(hv:RdS W B v bs ch)(hlen:bs.length<=1000000000):Spec prog W B 115 [ptr p] ([cr p 301 [v,.bool false]]++ch)
   (fun r post=>(getZ bs=none/\r=.int .i64 0/\post=[cr p 301 [v,.bool true]]++ch) \/
     (∃ n m v',getZ bs=some (n,m)/\r=.int .i64 n/\RdS W B v' (bs.drop m) ch/\post=[cr p 301 [v',.bool false]]++ch)):=by
 obtain⟨A,cp,rfl,hc,hs⟩:=hv
 have hget:∀ i,i<bs.length->(bs.map u8v)[i]?=some (.int .u8 ((bs.getD i 0).toNat:Int)):=fun i hi=>by simp [List.getD,List.getElem?_eq_getElem hi,u8v]
 refine Spec.eG [[cr p 301 [.slice A bs.length cp,.bool false]],ch] func115 ntmps115 fun w0=>?_
 refine CW.go uk 9 rfl (LW.eT (bin_Err W B p (.slice A bs.length cp) false ch) cl116 .n2 ?_)
 refine LW.split2 ?_
 refine LW.neq false rfl rfl (rfl) rfl ?_
 refine LW.go uk 7 rfl (CW.quiet mixed (by kernel_rfl) ?_)
 refine QW.mv ?_
 refine QW.step (Yl.nilPtr rfl) rfl ?_
 refine QW.step (Yl.fieldAddr _ rfl (fun _=>fa301_0 _ _ _)) rfl ?_
 refine QW.step (Yl.loadSt rfl .t rfl one65) rfl ?_
 refine QW.step (Yl.lenSlice rfl underlying65) rfl ?_
 by_cases hb0:bs.length=0
 . refine QW.step (Yl.eql true rfl rfl bT) rfl ?_
   refine QW.mv ?_
   refine QW.of 15 ?_
   refine QW.of 15 ?_
   refine QW.of 15 ?_
   refine QW.of 15 ?_
   refine QW.of 15 ?_
   refine QW.of 15 ?_
   refine QW.of 15 ?_
   refine QW.step (Yl.pickT rfl rfl) rfl ?_
   refine QW.mv ?_
   refine QW.of 24 ?_
   refine QW.of 24 ?_
   refine QW.of 24 ?_
   refine QW.of 24 ?_
   refine QW.of 24 ?_
   refine QW.of 24 ?_
   refine QW.of 24 ?_
   refine QW.of 24 ?_
   refine QW.of 24 ?_
   refine QW.of 24 ?_
   refine QW.of 24 ?_
   refine QW.of 24 ?_
   refine QW.of 24 ?_
   refine QW.step (Yl.pickT rfl rfl) rfl ?_
   refine QW.nil ?_
   refine NW.go uk 3 rfl ?_
   have hgz:getZ bs=none:=by rw [getZ,if_pos hb0]
   refine CW.go uk 4 rfl (LW.sr sz4 ?_)
   refine LW.go uk 9 rfl ?_
   refine NW.r1 ⟨_,.inl ⟨hgz,rfl,rfl⟩,?_⟩
   exact Sub.take (p:=[_]) .t (Sub.one .t)
 . refine QW.step (Yl.eql false rfl rfl bF) rfl ?_
   refine QW.mv ?_
   refine QW.on 15 rfl rfl ?_
   refine QW.mv ?_
   refine QW.on 15 rfl rfl ?_
   refine QW.step (Yl.nilPtr rfl) rfl ?_
   refine QW.on 15 rfl rfl ?_
   refine QW.step (Yl.fieldAddr _ rfl (fun _=>fa301_0 _ _ _)) rfl ?_
   refine QW.on 15 rfl rfl ?_
   refine QW.step (Yl.loadSt rfl .t rfl one65) rfl ?_
   refine QW.on 15 rfl rfl ?_
   obtain⟨a,rfl⟩:∃ a,A=some a:=hs.some (by rw [List.length_map];omega)
   refine QW.step (Yl.indexAt rfl rfl underlying65 ixs65 (by omega) (by omega)) rfl ?_
   refine QW.on 15 rfl rfl ?_
   refine QW.step (Yl.loadRd (v:=.int .u8 ((bs.getD 0 0).toNat:Int)) rfl (hs.rd .t) (hget 0 (by omega)) one5) rfl ?_
   by_cases hb8:8<(bs.getD 0 0).toNat
   . refine QW.on 15 rfl rfl ?_
     refine QW.step (Yl.gtr true rfl rfl dT) rfl ?_
     refine QW.step (Yl.pickF rfl rfl) rfl ?_
     refine QW.mv ?_
     refine QW.of 24 ?_
     refine QW.of 24 ?_
     refine QW.of 24 ?_
     refine QW.of 24 ?_
     refine QW.of 24 ?_
     refine QW.of 24 ?_
     refine QW.of 24 ?_
     refine QW.of 24 ?_
     refine QW.of 24 ?_
     refine QW.of 24 ?_
     refine QW.of 24 ?_
     refine QW.of 24 ?_
     refine QW.of 24 ?_
     refine QW.step (Yl.pickT rfl rfl) rfl ?_
     refine QW.nil ?_
     refine NW.go uk 3 rfl ?_
     have hgz:getZ bs=none:=by rw [getZ,if_neg hb0,if_pos hb8]
     refine CW.go uk 4 rfl (LW.sr sz4 ?_)
     refine LW.go uk 9 rfl ?_
     refine NW.r1 ⟨_,.inl ⟨hgz,rfl,rfl⟩,?_⟩
     exact Sub.take (p:=[_]) .t (Sub.one .t)
   . refine QW.on 15 rfl rfl ?_
     refine QW.step (Yl.gtr false rfl rfl dF) rfl ?_
     refine QW.step (Yl.pickF rfl rfl) rfl ?_
     refine QW.mv ?_
     refine QW.on 24 rfl rfl ?_
     refine QW.mv ?_
     refine QW.on 24 rfl rfl ?_
     refine QW.step (Yl.nilPtr rfl) rfl ?_
     refine QW.on 24 rfl rfl ?_
     refine QW.step (Yl.fieldAddr _ rfl (fun _=>fa301_0 _ _ _)) rfl ?_
     refine QW.on 24 rfl rfl ?_
     refine QW.step (Yl.loadSt rfl .t rfl one65) rfl ?_
     refine QW.on 24 rfl rfl ?_
     refine QW.step (Yl.lenSlice rfl underlying65) rfl ?_
     refine QW.on 24 rfl rfl ?_
     refine QW.mv ?_
     refine QW.on 24 rfl rfl ?_
     refine QW.step (Yl.nilPtr rfl) rfl ?_
     refine QW.on 24 rfl rfl ?_
     refine QW.step (Yl.fieldAddr _ rfl (fun _=>fa301_0 _ _ _)) rfl ?_
     refine QW.on 24 rfl rfl ?_
     refine QW.step (Yl.loadSt rfl .t rfl one65) rfl ?_
     refine QW.on 24 rfl rfl ?_
     refine QW.step (Yl.indexAt rfl rfl underlying65 ixs65 (by omega) (by omega)) rfl ?_
     refine QW.on 24 rfl rfl ?_
     refine QW.step (Yl.loadRd (v:=.int .u8 ((bs.getD 0 0).toNat:Int)) rfl (hs.rd .t) (hget 0 (by omega)) one5) rfl ?_
     refine QW.on 24 rfl rfl ?_
     refine QW.step (Yl.convInt (((bs.getD 0 0).toNat:Int)) rfl underlying5 underlying3 w6) rfl ?_
     by_cases hlk:bs.length<=(bs.getD 0 0).toNat
     . refine QW.on 24 rfl rfl ?_
       refine QW.step (Yl.leq true rfl rfl dT) rfl ?_
       refine QW.step (Yl.pickF rfl rfl) rfl ?_
       refine QW.nil ?_
       refine NW.go uk 3 rfl ?_
       have hgz:getZ bs=none:=by rw [getZ,if_neg hb0,if_neg hb8,if_pos hlk]
       refine CW.go uk 4 rfl (LW.sr sz4 ?_)
       refine LW.go uk 9 rfl ?_
       refine NW.r1 ⟨_,.inl ⟨hgz,rfl,rfl⟩,?_⟩
       exact Sub.take (p:=[_]) .t (Sub.one .t)
     . refine QW.on 24 rfl rfl ?_
       refine QW.step (Yl.leq false rfl rfl dF) rfl ?_
       refine QW.step (Yl.pickF rfl rfl) rfl ?_
       refine QW.nil ?_
       refine NW.go uk 9 rfl (LW.ld one65 ?_)
       refine LW.indexAt rfl rfl underlying65 ixs65 (by omega) (by omega) rfl ?_
       refine LW.loadRd (v:=.int .u8 ((bs.getD 0 0).toNat:Int)) rfl (hs.rd .t) (hget 0 (by omega)) one5 rfl ?_
       refine LW.convInt (((bs.getD 0 0).toNat:Int)) rfl underlying5 underlying3 w6 rfl ?_
       refine LW.go uk 4 rfl ?_
       generalize hk:(bs.getD 0 0).toNat=k at *
       refine CW.go uk 12 rfl ?_
       refine CW.loopG (fun i:Nat=>[(50,iN i),(49,iN k),(4,.int .i64 (accZ bs i)),(3,iN k),(0,ptr p)]) (fun _=>[[cr p 301 [.slice (some a) bs.length cp,.bool false]],ch]) (fun i=>i<=k) (fun i=>k-i) 0 (by exact Nat.zero_le _) rfl (by repeat' constructor) ?_
       intro i hi
       refine CW.go uk 2 rfl (LW.lss (decide ((i:Int)<(k:Int))) rfl rfl (rfl) rfl ?_)
       refine LW.go uk 3 rfl ?_
       refine CW.cond rfl (fun hc51=>?_) (fun hc51=>?_)
       . have hin:i<k:=by simpa using hc51
         refine CW.go uk 15 rfl (LW.ld one65 ?_)
         refine LW.go uk 1 rfl (LW.ad (((1+i:Nat):Int)) ?_)
         refine LW.indexAt rfl rfl underlying65 ixs65 (by omega) (by omega) rfl ?_
         refine LW.loadRd (v:=.int .u8 ((bs.getD (1+i) 0).toNat:Int)) rfl (hs.rd .t) (by rw [Int.toNat_natCast,Nat.mul_one];exact hget (1+i) (by omega)) one5 rfl ?_
         refine LW.convInt (((bs.getD (1+i) 0).toNat:Int)) rfl underlying5 underlying2 ((by have:=(bs.getD (1+i) 0).toNat_lt;exact wr64 rfl (by omega) (by omega))) rfl ?_
         refine LW.go uk 1 rfl (LW.mul ((8*i:Int)) rfl rfl w6 rfl ?_)
         refine LW.shl (IntKind.i64.wrap (((bs.getD (1+i) 0).toNat:Int)*2 ^ (8*i))) rfl rfl (by omega) (shl8 _ i (by omega)) rfl ?_
         refine LW.or_ (accZ bs (i+1)) rfl rfl (by simp [accZ,List.range_succ,List.foldl_append]) rfl ?_
         refine LW.go uk 5 rfl (LW.ad ((i+1:Int)) ?_)
         exact LW.go uk 2 rfl (NW.mG (i+1) (by exact⟨hin,by omega⟩))
       . have hie:i=k:=oF hc51
         subst hie
         refine CW.go uk 2 rfl (NW.then_exit (NW.go uk 2 rfl ?_))
         refine CW.cutG (fun _:Unit=>[(4,.int .i64 (numZ bs i)),(3,iN i),(0,ptr p)]) (fun _=>[[cr p 301 [.slice (some a) bs.length cp,.bool false]],ch]) (fun _=>True) ?cut15_1 ?cut15_2
         case cut15_1=>
          refine CW.go uk 3 rfl (LW.gtr (decide ((i:Int)>0)) rfl rfl (rfl) rfl ?_)
          refine LW.go uk 2 rfl ?_
          refine CW.cond rfl (fun hc69=>?_) (fun hc69=>?_)
          . have hk0:i≠0:=oT hc69
            refine CW.go uk 3 rfl (LW.sub ((8-i:Int)) rfl rfl w6 rfl ?_)
            refine LW.mul ((8*(8-i):Int)) rfl rfl w6 rfl ?_
            refine LW.shl (IntKind.i64.wrap (accZ bs i*2 ^ (8*(8-i)))) rfl rfl (by omega) (shp _ i (by omega)) rfl ?_
            refine LW.go uk 1 rfl (LW.sub ((8-i:Int)) rfl rfl w6 rfl ?_)
            refine LW.mul ((8*(8-i):Int)) rfl rfl w6 rfl ?_
            refine LW.shr (numZ bs i) rfl rfl (by omega) ((by rw [numZ,if_neg hk0];exact shq _ i (by omega))) rfl ?_
            exact LW.go uk 2 rfl (NW.mG (()) (by exact trivial))
          . have hk0:i=0:=oF hc69
            have hnz:numZ bs i=accZ bs i:=by rw [hk0];rfl
            refine CW.go uk 1 rfl ?_
            rw [hnz]
            exact NW.mG (()) (by exact trivial)
         case cut15_2=>
          rintro⟨⟩ _
          refine CW.go uk 4 rfl (LW.eT (bin_size W B (numZ bs i)) cl87 (Take.none _) ?_)
          refine LW.go uk 1 rfl ?_
          by_cases hsz:sizeZ (numZ bs i)=i
          . refine LW.neqF ?_
            refine LW.go uk 6 rfl ?_
            have hgz:getZ bs=some (numZ bs i,i+1):=by rw [getZ,if_neg hb0,hk,if_neg hb8,if_neg hlk,if_pos hsz]
            refine CW.go uk 5 rfl (LW.ld one65 ?_)
            refine LW.go uk 1 rfl (LW.ad (((i+1:Nat):Int)) ?_)
            refine LW.cut (i+1) (bs.length) (cp) (some _) none none rfl underlying65 szt5 (fun a hf=>congrArg some (hf.eval rfl)) (fun a hf=>rfl) (fun a hf=>rfl) (.inr ⟨_,rfl⟩) (.inl ⟨rfl,rfl,rfl⟩) (.inl ⟨rfl,rfl⟩) (by omega) (by omega) (by omega) (by omega) rfl ?_
            refine LW.go uk 2 rfl (LW.sr sz65 ?_)
            refine LW.go uk 9 rfl ?_
            refine NW.ret1 rfl rfl ⟨_,.inr ⟨_,_,_,hgz,rfl,RdS.cut hs hc (i+1) (by omega),rfl⟩,?_⟩
            exact Sub.take (p:=[_]) .t (Sub.one .t)
          . refine LW.neqT ?_
            refine LW.go uk 4 rfl ?_
            have hgz:getZ bs=none:=by rw [getZ,if_neg hb0,hk,if_neg hb8,if_neg hlk,if_neg hsz]
            refine CW.go uk 4 rfl (LW.sr sz4 ?_)
            refine LW.go uk 9 rfl ?_
            refine NW.r1 ⟨_,.inl ⟨hgz,rfl,rfl⟩,?_⟩
            exact Sub.take (p:=[_]) .t (Sub.one .t)
theorem bin_RInt_none (p:Nat)(v:Value)(bs:List UInt8)(ch:List Row)(hv:RdS W B v bs ch)(hlen:bs.length<=1000000000)(hg:getZ bs=none):Spec prog W B 115 [ptr p] ([cr p 301 [v,.bool false]]++ch)
  (fun r post=>r=.int .i64 0/\post=[cr p 301 [v,.bool true]]++ch):=
 (bin_RInt W B p v bs ch hv hlen).mono fun r post h=>by
  rcases h with ⟨_,h⟩ | ⟨n,m,v',h,_⟩
  . exact h
  . rw [hg] at h;cases h
theorem bin_RInt_some (p:Nat)(v:Value)(bs:List UInt8)(ch:List Row)(hv:RdS W B v bs ch)(hlen:bs.length<=1000000000)(n:Int)(m:Nat)(hg:getZ bs=some (n,m)):Spec prog W B 115 [ptr p] ([cr p 301 [v,.bool false]]++ch)
  (fun r post=>r=.int .i64 n/\∃ v',RdS W B v' (bs.drop m) ch/\post=[cr p 301 [v',.bool false]]++ch):=
 (bin_RInt W B p v bs ch hv hlen).mono fun r post h=>by
  rcases h with ⟨h,_⟩ | ⟨n',m',v',h,hr,hs,hp⟩
  . rw [hg] at h;cases h
  . rw [hg] at h;cases h;exact⟨hr,v',hs,hp⟩
end
open Go.RowKit
section
variable (W:World)(B:Nat)
theorem cutA_zero (A:Option Addr)(mx sz:Nat):cutA A mx 0 sz=A:=by
 unfold cutA
 split
 . rfl
 . cases A with
   | none=>rfl
   | some a=>simp [Addr.add]
theorem bin_RText (p:Nat)(v:Value)(bs:List UInt8)(ch:List Row)(hv:RdS W B v bs ch)(hlen:bs.length<=1000000000)(n:Int)(m:Nat)(hg:getZ bs=some (n,m))(most:Int):Spec prog W B 117 [ptr p,.int .i64 most] ([cr p 301 [v,.bool false]]++ch)
   (fun r post=>(¬ (0<=n/\n<=most/\n<=((bs.drop m).length:Int))/\r=strV []/\∃ v',post=[cr p 301 [v',.bool true]]++ch) \/
     ((0<=n/\n<=most/\n<=((bs.drop m).length:Int))/\r=strV ((bs.drop m).take n.toNat)/\∃ v',RdS W B v' ((bs.drop m).drop n.toNat) ch/\post=[cr p 301 [v',.bool false]]++ch)):=by
 have hdl:(bs.drop m).length<=bs.length:=by rw [List.length_drop];omega
 refine Spec.eG [[cr p 301 [v,.bool false]]++ch] func117 ntmps117 fun w0=>?_
 refine CW.go uk 8 rfl (LW.cG (bin_RInt_some W B p v bs ch hv hlen n m hg) cl115 ?_)
 rintro _ _ ⟨rfl,v',hv',rfl⟩;obtain⟨A,cp,rfl,hc,hs⟩:=hv';generalize hds:bs.drop m=ds at *
 refine LW.go uk 7 rfl (LW.eG (bin_Err W B p (.slice A ds.length cp) false ch) cl116 ?_)
 refine LW.split2 ?_
 refine LW.neq false rfl rfl (rfl) rfl ?_
 refine LW.go uk 9 rfl ?_
 by_cases h13:n<0
 . refine LW.lssT ?_
   refine LW.go uk 22 rfl (LW.sr sz4 ?_)
   refine LW.go uk 9 rfl ?_
   refine NW.ret1 rfl rfl ⟨_,.inl ⟨by omega,rfl,.slice A ds.length cp,rfl⟩,?_⟩
   exact Sub.take (p:=[_]) .t (Sub.one .t)
 . refine LW.lssF ?_
   refine LW.go uk 5 rfl ?_
   by_cases h17:most<n
   . refine LW.go uk 1 rfl (LW.gtrT ?_)
     refine LW.go uk 18 rfl (LW.sr sz4 ?_)
     refine LW.go uk 9 rfl ?_
     refine NW.ret1 rfl rfl ⟨_,.inl ⟨by omega,rfl,.slice A ds.length cp,rfl⟩,?_⟩
     exact Sub.take (p:=[_]) .t (Sub.one .t)
   . refine LW.go uk 1 rfl (LW.gtrF ?_)
     refine LW.go uk 11 rfl (LW.ld one65 ?_)
     refine LW.go uk 2 rfl ?_
     by_cases h26:(ds.length:Int)<n
     . refine LW.go uk 1 rfl (LW.gtrT ?_)
       refine LW.go uk 9 rfl (LW.sr sz4 ?_)
       refine LW.go uk 9 rfl ?_
       refine NW.ret1 rfl rfl ⟨_,.inl ⟨by omega,rfl,.slice A ds.length cp,rfl⟩,?_⟩
       exact Sub.take (p:=[_]) .t (Sub.one .t)
     . refine LW.go uk 1 rfl (LW.gtrF ?_)
       refine LW.go uk 7 rfl ?_
       obtain⟨k,rfl⟩:∃ k:Nat,n=(k:Int):=⟨n.toNat,by omega⟩
       refine CW.go uk 4 rfl (LW.ld one65 ?_)
       refine LW.go uk 1 rfl (LW.cut (0) (k) (cp) none (some _) none rfl underlying65 szt5 (fun a hf=>rfl) (fun a hf=>congrArg some (hf.eval rfl)) (fun a hf=>rfl) (.inl ⟨rfl,rfl⟩) (.inr ⟨_,rfl⟩) (.inl ⟨rfl,rfl⟩) (by omega) (by omega) (by omega) (by omega) rfl ?_)
       refine LW.bytesStr (ds.take k) rfl underlying65 underlying5 underlying9 (by rw [List.map_take,cutA_zero];exact (hs.rd .t).sub k) (by rw [List.length_take];omega) rfl ?_
       refine LW.go uk 9 rfl (LW.ld one65 ?_)
       refine LW.go uk 1 rfl (LW.cut (k) (ds.length) (cp) (some _) none none rfl underlying65 szt5 (fun a hf=>congrArg some (hf.eval rfl)) (fun a hf=>rfl) (fun a hf=>rfl) (.inr ⟨_,rfl⟩) (.inl ⟨rfl,rfl,rfl⟩) (.inl ⟨rfl,rfl⟩) (by omega) (by omega) (by omega) (by omega) rfl ?_)
       refine LW.go uk 2 rfl (LW.sr sz65 ?_)
       refine LW.go uk 9 rfl ?_
       refine NW.ret1 rfl rfl ⟨_,.inr ⟨⟨by omega,by omega,by omega⟩,rfl,_,RdS.cut hs hc k (by omega),rfl⟩,?_⟩
       exact Sub.take (p:=[_]) .t (Sub.one .t)
end
open Go.RowKit
def XF (P:Program)(f:FuncId)(g:Array Value->Sem Value):Prop:=∀ args w,(callFunc f args).run P w=((g args).run P w).andThen fun v w'=>.ok (.value v) w'
section
variable {P:Program}{n:Nat}{c:Ctx}{Q:Exit->Act->World->Prop}{e:Env}{h:Heap}{ops:Array Oper}{rest:List Oper}{d ty:Nat}{pos:String}{af:Array Edge}
theorem evs_arr {a:Act}{xs:List Operand}{args:List Value}(hf:Fr n e a)(hargs:e.Evs xs args):xs.toArray.map a.eval=args.toArray:=by
 apply Array.ext'
 simpa using hargs.map hf
theorem run_call_ext {f:Nat}{g:Array Value->Sem Value}{xs:List Operand}{ats:Array TypeId}{args:List Value}{a:Act}{w w':World}{v:Value}(hx:XF P f g)(hf:Fr n e a)(hargs:e.Evs xs args)(hr:(g args.toArray).run P w=.ok v w') :
  (execOp a.eval ⟨some d,.call { callee:=.value (.func f),args:=xs.toArray,argTypes:=ats },ty,pos,af,none⟩).run P w=.ok (.value v) w':=by
 have he:a.eval (.func f)=.func (.func f) #[] #[]:=rfl
 have hm:=evs_arr hf hargs
 simp only [execOp,resolve,he,Deferred.ofValue,hm,Sem.run_bind,Sem.run_pure,Result.andThen_ok,invoke,Array.append_empty,hx _ w]
 have h0:#[]++args.toArray=args.toArray:=by simp
 rw [h0,hr]
 rfl
theorem LW.ext {f:Nat}{g:Array Value->Sem Value}{xs:List Operand}{ats:Array TypeId}{args:List Value}(v:Value)(hx:XF P f g)(hargs:e.Evs xs args)(hr:∀ w,St c h w->(g args.toArray).run P w=.ok v w)(hd:Nat.blt d n=true)
  (k:LW P n c ops Q rest ((d,v)::e) h):LW P n c ops Q (⟨some d,.call { callee:=.value (.func f),args:=xs.toArray,argTypes:=ats },ty,pos,af,none⟩::rest) e h:=
 LW.val v hd (fun _ w hf s=>run_call_ext hx hf hargs (hr w s)) k
theorem LW.extAlloc {f:Nat}{g:Array Value->Sem Value}{xs:List Operand}{ats:Array TypeId}{args:List Value}(v:Nat->Value)(t:TypeId)(l:List Value)(hx:XF P f g)(hargs:e.Evs xs args)
  (hr:∀ w,St c h w->(g args.toArray).run P w=.ok (v w.heap.size) (w.alloc (.cells l.toArray t))) (hd:Nat.blt d n=true)
  (k:∀ b,LW P n c ops Q rest ((d,v b)::e) ([cr b t l]::h)):LW P n c ops Q (⟨some d,.call { callee:=.value (.func f),args:=xs.toArray,argTypes:=ats },ty,pos,af,none⟩::rest) e h:=
 LW.act hd fun _ w hf s=>⟨v w.heap.size,_,_,run_call_ext hx hf hargs (hr w s),s.alloc _,k _⟩
theorem LW.extSet {f:Nat}{g:Array Value->Sem Value}{xs:List Operand}{ats:Array TypeId}{args:List Value}(v:Value)(h1:Heap)(hx:XF P f g)(hargs:e.Evs xs args)
  (hr:∀ w,St c h w->∃ w',(g args.toArray).run P w=.ok v w'/\St c h1 w') (hd:Nat.blt d n=true)
  (k:LW P n c ops Q rest ((d,v)::e) h1):LW P n c ops Q (⟨some d,.call { callee:=.value (.func f),args:=xs.toArray,argTypes:=ats },ty,pos,af,none⟩::rest) e h:=
 LW.act hd fun _ w hf s=>by
  obtain⟨w',hr',hs'⟩:=hr w s
  exact⟨v,h1,w',run_call_ext hx hf hargs hr',hs',k⟩
def Meth (P:Program)(t:TypeId)(u:Value)(name:String)(f:FuncId)(r:Value):Prop:=∀ w,(Go.method (P.types.size+Made.depth) t u name).run P w=.ok (f,r) w
theorem run_invoke_fn {name:String}{f:Nat}{x:Operand}{xs:List Operand}{ats:Array TypeId}{args:List Value}{a:Act}{w:World}{t:TypeId}{u r:Value}(hx:e.ev x=some (.iface t u))(hm:Meth P t u name f r)(hf:Fr n e a)(hargs:e.Evs xs args) :
  (execOp a.eval ⟨some d,.call { callee:=.invoke x name,args:=xs.toArray,argTypes:=ats },ty,pos,af,none⟩).run P w=(callFunc f (r::args).toArray).run P w:=by
 have hv:=hf.eval hx
 have he:=evs_arr hf hargs
 have h2:(#[Value.iface t u]++args.toArray).extract 1 (#[Value.iface t u]++args.toArray).size=args.toArray:=by
  apply Array.ext'
  simp
 simp only [execOp,resolve,he,Sem.run_bind,Sem.run_pure,Result.andThen_ok,invoke,hv,callMethod,h2]
 simp [hm w]
theorem LW.invExt {name:String}{f:Nat}{g:Array Value->Sem Value}{x:Operand}{xs:List Operand}{ats:Array TypeId}{args:List Value}{t:TypeId}{u r:Value}(v:Value)(hx:e.ev x=some (.iface t u))(hm:Meth P t u name f r)(hg:XF P f g)(hargs:e.Evs xs args)
  (hr:∀ w,St c h w->(g (r::args).toArray).run P w=.ok v w) (hd:Nat.blt d n=true) (k:LW P n c ops Q rest ((d,v)::e) h) :
  LW P n c ops Q (⟨some d,.call { callee:=.invoke x name,args:=xs.toArray,argTypes:=ats },ty,pos,af,none⟩::rest) e h:=
 LW.val v hd (fun a w hf s=>by rw [run_invoke_fn hx hm hf hargs,hg _ w,hr w s];rfl) k
theorem LW.invCall {name:String}{f:Nat}{fn:Func}{code:Code}{x:Operand}{xs:List Operand}{ats:Array TypeId}{args:List Value}{pre:List Row}{R:Value->List Row->Prop}{h':Heap}{t:TypeId}{u r:Value}(hx:e.ev x=some (.iface t u))(hm:Meth P t u name f r)(spec:Spec P c.W c.B f (r::args) pre R)
  (hfn:P.funcs[f]?=some fn) (hbody:fn.body=some code) (hname:(fn.name == "runtime.NumGoroutine")=false) (hargs:e.Evs xs args) (tk:Take pre h h') (hd:Nat.blt d n=true)
  (k:∀ v post,R v post->LW P n c ops Q rest ((d,v)::e) (post::h')) :
  LW P n c ops Q (⟨some d,.call { callee:=.invoke x name,args:=xs.toArray,argTypes:=ats },ty,pos,af,none⟩::rest) e h:=fun a w hf s=>
 wpList_plain rfl fun K hK=>by
  have hrun:(callFunc f (r::args).toArray).run P w=.ok (.enter f (r::args).toArray) w:=by
   have hn:¬ fn.name = "runtime.NumGoroutine" := by simpa using hname
   simp [callFunc,hfn,hbody,hn]
  unfold Oper.wp
  rw [run_invoke_fn hx hm hf hargs,hrun,Oper.upon_enter]
  refine (spec w s.old (s.ext.rows.sub ⟨h'.flatten,tk⟩)).mono ?_
  rintro _ w' ⟨v,post,rfl,hR,hx⟩
  exact hK _ _ (k v post hR _ _ (hf.put d v hd) (s.called tk hx))
theorem LW.tassert {x:Operand}{xT t:Nat}{ok:Bool}{u v:Value}(hx:e.ev x=some u)(hr:∀ w,(Instr.typeAssert u xT t ok).run P w=.ok v w)(hd:Nat.blt d n=true)(k:LW P n c ops Q rest ((d,v)::e) h) :
  LW P n c ops Q (⟨some d,.typeAssert x xT t ok,ty,pos,af,none⟩::rest) e h:=
 LW.val v hd (fun a w hf _=>by simp [execOp,hf.eval hx,hr]) k
theorem run_typeAssert_same {t xT:TypeId}{u:Value}{td:TypeDesc}(hu:P.underlying t=some td)(hni:(match td with | .interface _=>true | _=>false)=false)(w:World):(Instr.typeAssert (.iface t u) xT t true).run P w=.ok (.tuple #[u,.bool true]) w:=by
 cases td<;>first | (simp at hni;done) | simp [Instr.typeAssert,run_underlying hu]
theorem run_typeAssert_other {t t' xT:TypeId}{u z:Value}{td:TypeDesc}(hu:P.underlying t=some td)(hni:(match td with | .interface _=>true | _=>false)=false)(hne:t'≠t)(hz:(P.info? t).bind (·.zero)=some z)(w:World) :
  (Instr.typeAssert (.iface t' u) xT t true).run P w=.ok (.tuple #[z,.bool false]) w:=by
 obtain⟨i,hi,hz'⟩:=Option.bind_eq_some_iff.1 hz
 cases td<;>first | (simp at hni;done) | simp [Instr.typeAssert,run_underlying hu,hne,zeroValue,typeInfo,hi,hz']
theorem LW.ifaceEqNe {xt yt tx ty':Nat}{x y:Operand}{vx vy:Value}{ms:Array (String×TypeId)}(hx:e.ev x=some (.iface tx vx))(hy:e.ev y=some (.iface ty' vy))(ht:P.underlying xt=some (.interface ms))(hne:tx≠ty')(hd:Nat.blt d n=true)
  (k:LW P n c ops Q rest ((d,.bool false)::e) h):LW P n c ops Q (⟨some d,.binOp .eql xt x y yt,ty,pos,af,none⟩::rest) e h:=
 LW.val _ hd (fun a w hf _=>by simp [execOp,hf.eval hx,hf.eval hy,eqGuard_at_iface,run_eql_iface_types tx ty' vx vy ht hne,Result.andThen]) k
theorem run_eql_iface_int {ti t:TypeId}{ms:Array (String×TypeId)}{ki:IntKind}{p q:Int}(hi:P.underlying ti=some (.interface ms))(ht:P.underlying t=some (.int ki))(hc:(P.info? t).map (·.comparable)=some true)(w:World) :
  (binOp .eql ti (.iface t (.int ki p)) (.iface t (.int ki q))).run P w=.ok (.bool (p==q)) w:=by
 obtain⟨i,hi',hc'⟩:=Option.map_eq_some_iff.1 hc
 have h2:∀ d:Nat,(Op.equalIn (d+2) ti (.iface t (.int ki p)) (.iface t (.int ki q))).run P w=.ok (p==q) w:=fun d=>by
  simp [Op.equalIn,run_underlying hi,typeInfo,hi',hc',run_underlying ht]
 simp only [binOp]
 simp [Op.equal,Op.maxDepth,h2 9998]
theorem LW.ifaceEqInt {xt yt t:Nat}{x y:Operand}{ki:IntKind}{p q:Int}{ms:Array (String×TypeId)}(r:Bool)(hx:e.ev x=some (.iface t (.int ki p)))(hy:e.ev y=some (.iface t (.int ki q)))(hi:P.underlying xt=some (.interface ms))(ht:P.underlying t=some (.int ki))(hc:(P.info? t).map (·.comparable)=some true)(hr:(p==q)=r)(hd:Nat.blt d n=true)
  (k:LW P n c ops Q rest ((d,.bool r)::e) h):LW P n c ops Q (⟨some d,.binOp .eql xt x y yt,ty,pos,af,none⟩::rest) e h:=
 LW.val _ hd (fun a w hf _=>by subst hr;simp [execOp,hf.eval hx,hf.eval hy,eqGuard_at_iface,run_eql_iface_int hi ht hc,Result.andThen]) k
theorem LW.loadIn {t:Nat}{x:Operand}{b o:Nat}{u:TypeId}{l:List Value}{v:Value}(hx:e.ev x=some (.pointer (some ⟨b,o,none⟩)))(hm:cr b u l∈h.flatten)(hv:l[o]?=some v)(ht:oneB P t=true)
  (hd:Nat.blt d n=true) (k:LW P n c ops Q rest ((d,v)::e) h):LW P n c ops Q (⟨some d,.load t x,ty,pos,af,none⟩::rest) e h:=
 LW.val v hd (fun a w hf s=>by
  have hc:w.cell? ⟨b,o,none⟩=some v:=by
   rw [cell_of_row w b o l.toArray u (0,0) (s.ext.rows.2 _ hm).2]
   simpa using hv
  simp [execOp,hf.eval hx,run_loadAt_one ht hc]) k
theorem Yl.loadIn {t:Nat}{x:Operand}{b o:Nat}{u:TypeId}{l:List Value}{v:Value}{hs:List Row}(hx:e.ev x=some (.pointer (some ⟨b,o,none⟩)))(hm:cr b u l∈hs)(hv:l[o]?=some v)(ht:oneB P t=true) :
 Yl P n (Held c hs) e ⟨some d,.load t x,ty,pos,af,none⟩ v:=Yl.load hx hm hv ht
end
open Go.RowKit Go.Extern
def eno (c:Int):Value:=.iface 52 (.int .i64 c)
def chainV:List (Nat×List UInt8)->Value->Value
 | [],x=>x
 | (p,_)::_,_=>.iface 147 (ptr p)
def chainR:List (Nat×List UInt8)->Value->List Row
 | [],_=>[]
 | (p,s)::r,x=>cr p 149 [strV s,chainV r x]::chainR r x
theorem chainV_iface (l:List (Nat×List UInt8))(c:Int):∃ t u,chainV l (eno c)=.iface t u:=by
 cases l with
 | nil=>exact⟨_,_,rfl⟩
 | cons a r=>exact⟨_,_,rfl⟩
theorem chainR_mem (q:List (Nat×List UInt8))(p:Nat)(s:List UInt8)(r:List (Nat×List UInt8))(x:Value):cr p 149 [strV s,chainV r x]∈chainR (q++(p,s)::r) x:=by
 induction q with
 | nil=>exact List.mem_cons_self
 | cons a q ih=>exact List.mem_cons_of_mem _ ih
def hd (t:Nat):Value:=.pointer (some ⟨2,t,none⟩)
def rty (t:Nat):Value:=.iface 186 (.agg #[hd t])
def rval (t b fl:Nat):Value:=.agg #[hd t,ptr b,.int .u64 fl]
section
variable (w:World)
theorem valueOfP (t:Nat):(ReflectliteValue.unpack (.iface 74 (ptr t))).run prog w=.ok (rval 74 w.heap.size 150) (w.alloc (.cells #[ptr t] 74)):=by kernel_rfl
theorem valueOfE (c:Int):(ReflectliteValue.unpack (eno c)).run prog w=.ok (rval 52 w.heap.size 130) (w.alloc (.cells #[.int .i64 c] 52)):=by kernel_rfl
theorem typeP (b:Nat):(ReflectliteValue.methodAny (ReflectliteValue.valueError "reflectlite.Value.Type" 0) (fun t _ _ _=>ReflectliteType.toType t) #[rval 74 b 150]).run prog w=.ok (rty 74) w:=by kernel_rfl
theorem kindP:(ReflectliteType.abiMethod (fun t=>do pure (.int .u8 (<- Rtype.kind t))) #[hd 74]).run prog w=.ok (.int .u8 22) w:=by kernel_rfl
theorem kindE:(ReflectliteType.abiMethod (fun t=>do pure (.int .u8 (<- Rtype.kind t))) #[hd 52]).run prog w=.ok (.int .u8 2) w:=by kernel_rfl
theorem elemP:(ReflectliteType.method ReflectliteType.elem #[.agg #[hd 74]]).run prog w=.ok (rty 52) w:=by kernel_rfl
theorem implE:(ReflectliteType.relation "Implements" ReflectliteType.implements_ #[.agg #[hd 52],rty 43]).run prog w=.ok (.bool true) w:=by kernel_rfl
theorem typeOfE (c:Int):(ReflectliteType.typeOf #[eno c]).run prog w=.ok (rty 52) w:=by kernel_rfl
theorem typeOfA (v:Value):(ReflectliteType.typeOf #[.iface 147 v]).run prog w=.ok (rty 147) w:=by kernel_rfl
theorem assE:(ReflectliteType.relation "AssignableTo" ReflectliteType.assignableTo #[.agg #[hd 52],rty 52]).run prog w=.ok (.bool true) w:=by kernel_rfl
theorem assA:(ReflectliteType.relation "AssignableTo" ReflectliteType.assignableTo #[.agg #[hd 147],rty 52]).run prog w=.ok (.bool false) w:=by kernel_rfl
theorem compE:(ReflectliteType.method (fun t=>do Rtype.noPackHeld "Comparable" t;pure (.bool (<- typeInfo t).comparable)) #[.agg #[hd 52]]).run prog w=.ok (.bool true) w:=by kernel_rfl
theorem rlm (z:Sem Value)(f:TypeId->Addr->Nat->Nat->Sem Value)(v:Value) :
 ReflectliteValue.method z f #[v]=(do match <- ReflectliteValue.parts v with | none=>z | some (t,a,fl)=>f t a fl (fl % 32)):=rfl
theorem partsP (b:Nat):(ReflectliteValue.parts (rval 74 b 150)).run prog w=.ok (some (74,⟨b,0,none⟩,150)) w:=by kernel_rfl
theorem isNilP (b p:Nat)(ha:w.cell? ⟨b,0,none⟩=some (ptr p)) :
  (ReflectliteValue.method (ReflectliteValue.valueError "reflectlite.Value.IsNil" 0) ReflectliteValue.isNil #[rval 74 b 150]).run prog w=.ok (.bool false) w:=by
 rw [rlm]
 simp only [Sem.run_bind,partsP,Result.andThen]
 simp [ReflectliteValue.isNil,loadVar,isAgg,underlying,underlying74,ha,Result.andThen]
theorem elemOfP:(Rtype.elem? 74).run prog w=.ok (some 52) w:=by kernel_rfl
theorem mkE (p:Nat):(ReflectliteValue.mk 52 ⟨p,0,none⟩ ReflectliteValue.flagAddr).run prog w=.ok (rval 52 p 386) w:=by kernel_rfl
theorem elemVP (b p:Nat)(ha:w.cell? ⟨b,0,none⟩=some (ptr p)) :
  (ReflectliteValue.method (ReflectliteValue.valueError "reflectlite.Value.Elem" 0) ReflectliteValue.elem #[rval 74 b 150]).run prog w=.ok (rval 52 p 386) w:=by
 rw [rlm]
 simp only [Sem.run_bind,partsP,Result.andThen]
 simp [ReflectliteValue.elem,loadVar,isAgg,underlying,underlying74,ha,Result.andThen,elemOfP,mkE]
theorem rls (v x:Value):ReflectliteValue.set #[v,x]=(do
 let (some (dst,a,fl),some (src,b,_)):=(<- ReflectliteValue.parts v,<- ReflectliteValue.parts x)
  | unsupported (.noEntry "extern/(internal/reflectlite.Value).Set.zeroValue")
 if fl/ReflectliteValue.flagAddr % 2==0 then unsupported (.noEntry "extern/(internal/reflectlite.Value).Set.unaddressable")
 let val <- loadVar src b
 if <- Rtype.directlyAssignable dst src then storeVar dst a val
 else if <- Rtype.implements dst src then
  if (<- Rtype.kind src)==20 then
   match val with
   | .nilIface=>unsupported (.noEntry "extern/reflectlite: a nil value of one interface type handed on as a value of another")
   | _=>storeVar dst a val
  else storeVar dst a (.iface src val)
 else panicString ("reflectlite.Set: value of type " ++ (<- Rtype.spelt src) ++ " is not assignable to type " ++ (<- Rtype.spelt dst))
 pure (.tuple #[])):=rfl
theorem partsEa (b:Nat):(ReflectliteValue.parts (rval 52 b 386)).run prog w=.ok (some (52,⟨b,0,none⟩,386)) w:=by kernel_rfl
theorem partsE (b:Nat):(ReflectliteValue.parts (rval 52 b 130)).run prog w=.ok (some (52,⟨b,0,none⟩,130)) w:=by kernel_rfl
theorem directE:(Rtype.directlyAssignable 52 52).run prog w=.ok true w:=by kernel_rfl
theorem setE (t b:Nat)(c:Int)(old:Value)(hb:w.cell? ⟨b,0,none⟩=some (.int .i64 c))(ht:w.cell? ⟨t,0,none⟩=some old)(hf:w.frozen? ⟨t,0,none⟩=false) :
  (ReflectliteValue.set #[rval 52 t 386,rval 52 b 130]).run prog w=.ok (.tuple #[]) (w.setCell ⟨t,0,none⟩ (.int .i64 c)):=by
 rw [rls]
 simp only [Sem.run_bind,partsEa,partsE,Result.andThen]
 simp [ReflectliteValue.flagAddr,loadVar,isAgg,underlying,underlying52,hb,Result.andThen,directE,storeVar,Value.cells,storeCells,Addr.add]
 rw [run_store prog w ⟨t,0,none⟩ _ _ (by rfl)]
 simp [ht,hf]
end
theorem xValueOf:XF prog 55 (fun args=>ReflectliteValue.unpack (args.getD 0 (.tuple #[]))):=fun args w=>@run_callFunc_extern prog 55 _ (fun args=>ReflectliteValue.unpack (args.getD 0 (.tuple #[]))) func55 (by kernel_rfl) (by kernel_rfl) (by kernel_rfl) (by kernel_rfl) args w
theorem xType:XF prog 56 (ReflectliteValue.methodAny (ReflectliteValue.valueError "reflectlite.Value.Type" 0) (fun t _ _ _=>ReflectliteType.toType t)):=fun args w=>@run_callFunc_extern prog 56 _ (ReflectliteValue.methodAny (ReflectliteValue.valueError "reflectlite.Value.Type" 0) (fun t _ _ _=>ReflectliteType.toType t)) func56 (by kernel_rfl) (by kernel_rfl) (by kernel_rfl) (by kernel_rfl) args w
theorem xIsNil:XF prog 57 (ReflectliteValue.method (ReflectliteValue.valueError "reflectlite.Value.IsNil" 0) ReflectliteValue.isNil):=fun args w=>@run_callFunc_extern prog 57 _ (ReflectliteValue.method (ReflectliteValue.valueError "reflectlite.Value.IsNil" 0) ReflectliteValue.isNil) func57 (by kernel_rfl) (by kernel_rfl) (by kernel_rfl) (by kernel_rfl) args w
theorem xKind:XF prog 412 (ReflectliteType.abiMethod (fun t=>do pure (.int .u8 (<- Rtype.kind t)))):=fun args w=>@run_callFunc_extern prog 412 _ (ReflectliteType.abiMethod (fun t=>do pure (.int .u8 (<- Rtype.kind t)))) func412 (by kernel_rfl) (by kernel_rfl) (by kernel_rfl) (by kernel_rfl) args w
theorem xElem:XF prog 428 (ReflectliteType.method ReflectliteType.elem):=fun args w=>@run_callFunc_extern prog 428 _ (ReflectliteType.method ReflectliteType.elem) func428 (by kernel_rfl) (by kernel_rfl) (by kernel_rfl) (by kernel_rfl) args w
theorem xImpl:XF prog 429 (ReflectliteType.relation "Implements" ReflectliteType.implements_):=fun args w=>@run_callFunc_extern prog 429 _ (ReflectliteType.relation "Implements" ReflectliteType.implements_) func429 (by kernel_rfl) (by kernel_rfl) (by kernel_rfl) (by kernel_rfl) args w
theorem xAss:XF prog 426 (ReflectliteType.relation "AssignableTo" ReflectliteType.assignableTo):=fun args w=>@run_callFunc_extern prog 426 _ (ReflectliteType.relation "AssignableTo" ReflectliteType.assignableTo) func426 (by kernel_rfl) (by kernel_rfl) (by kernel_rfl) (by kernel_rfl) args w
theorem xComp:XF prog 427 (ReflectliteType.method (fun t=>do Rtype.noPackHeld "Comparable" t;pure (.bool (<- typeInfo t).comparable))):=fun args w=>@run_callFunc_extern prog 427 _ (ReflectliteType.method (fun t=>do Rtype.noPackHeld "Comparable" t;pure (.bool (<- typeInfo t).comparable))) func427 (by kernel_rfl) (by kernel_rfl) (by kernel_rfl) (by kernel_rfl) args w
theorem xTypeOf:XF prog 111 ReflectliteType.typeOf:=fun args w=>@run_callFunc_extern prog 111 _ ReflectliteType.typeOf func111 (by kernel_rfl) (by kernel_rfl) (by kernel_rfl) (by kernel_rfl) args w
theorem xVElem:XF prog 112 (ReflectliteValue.method (ReflectliteValue.valueError "reflectlite.Value.Elem" 0) ReflectliteValue.elem):=fun args w=>@run_callFunc_extern prog 112 _ (ReflectliteValue.method (ReflectliteValue.valueError "reflectlite.Value.Elem" 0) ReflectliteValue.elem) func112 (by kernel_rfl) (by kernel_rfl) (by kernel_rfl) (by kernel_rfl) args w
theorem xSet:XF prog 113 ReflectliteValue.set:=fun args w=>@run_callFunc_extern prog 113 _ ReflectliteValue.set func113 (by kernel_rfl) (by kernel_rfl) (by kernel_rfl) (by kernel_rfl) args w
theorem mKind (t:Nat):Meth prog 186 (.agg #[hd t]) "Kind" 412 (hd t):=by intro w;kernel_rfl
theorem mElem (t:Nat):Meth prog 186 (.agg #[hd t]) "Elem" 428 (.agg #[hd t]):=by intro w;kernel_rfl
theorem mImpl (t:Nat):Meth prog 186 (.agg #[hd t]) "Implements" 429 (.agg #[hd t]):=by intro w;kernel_rfl
theorem mAss (t:Nat):Meth prog 186 (.agg #[hd t]) "AssignableTo" 426 (.agg #[hd t]):=by intro w;kernel_rfl
theorem mComp (t:Nat):Meth prog 186 (.agg #[hd t]) "Comparable" 427 (.agg #[hd t]):=by intro w;kernel_rfl
theorem mUnwrap (p:Nat):Meth prog 147 (ptr p) "Unwrap" 424 (ptr p):=by intro w;kernel_rfl
theorem noAsA (v:Value)(xT:Nat)(w:World):(Instr.typeAssert (.iface 147 v) xT 191 true).run prog w=.ok (.tuple #[.nilIface,.bool false]) w:=run_typeAssert_lacksB underlying191 (by kernel_rfl) (by kernel_rfl) v xT w
theorem noIsA (v:Value)(xT:Nat)(w:World):(Instr.typeAssert (.iface 147 v) xT 466 true).run prog w=.ok (.tuple #[.nilIface,.bool false]) w:=run_typeAssert_lacksB underlying466 (by kernel_rfl) (by kernel_rfl) v xT w
theorem unwA (v:Value)(xT:Nat)(w:World):(Instr.typeAssert (.iface 147 v) xT 194 true).run prog w=.ok (.tuple #[.iface 147 v,.bool true]) w:=run_typeAssert_hasB underlying194 (by kernel_rfl) v xT w
theorem noIsE (v:Value)(xT:Nat)(w:World):(Instr.typeAssert (.iface 52 v) xT 466 true).run prog w=.ok (.tuple #[.nilIface,.bool false]) w:=run_typeAssert_lacksB underlying466 (by kernel_rfl) (by kernel_rfl) v xT w
theorem noUnwE (v:Value)(xT:Nat)(w:World):(Instr.typeAssert (.iface 52 v) xT 194 true).run prog w=.ok (.tuple #[.nilIface,.bool false]) w:=run_typeAssert_lacksB underlying194 (by kernel_rfl) (by kernel_rfl) v xT w
theorem noUnwsE (v:Value)(xT:Nat)(w:World):(Instr.typeAssert (.iface 52 v) xT 196 true).run prog w=.ok (.tuple #[.nilIface,.bool false]) w:=run_typeAssert_lacksB underlying196 (by kernel_rfl) (by kernel_rfl) v xT w
theorem compErrno:(prog.info? 52).map (·.comparable)=some true:=by kernel_rfl
end Go.Proofs.YtnlpccoigflheaaGreatDoor
