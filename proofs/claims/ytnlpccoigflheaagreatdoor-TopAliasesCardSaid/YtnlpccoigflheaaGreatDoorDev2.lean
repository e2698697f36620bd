/- App Str DevDef Dev1 Dev2 -/
import Derived.Test.YtnlpccoigflheaaGreatDoorMem
import Derived.Laws.Append
import Derived.Laws.BytesArg
import Derived.Laws.IdiomStrings
import Derived.Test.YtnlpccoigflheaaGreatDoorProg
import Derived.Test.YtnlpccoigflheaaGreatDoorFac
namespace Go.Proofs.YtnlpccoigflheaaGreatDoor
open Go.RowKit
open Tryz
def Tui:Tbl:=⟨[(77,0,0),(77,3,3),(77,4,4),(77,5,5)],[],[75]⟩
theorem ui:Tui.Ok Tryz.prog:=.of (⟨⟨_,Tryz.underlying75⟩,trivial⟩)
def OwnS (t:TypeId)(sz:Nat)(v:Value)(m:Nat)(xs:List Value)(ch:List Row):Prop:=
 (v=.slice none 0 0/\m=0/\xs=[]/\ch=[]) \/
 ∃ b cap slack,v=.slice (sA b) m cap/\xs.length=m*sz/\m<=cap/\slack.length=(cap-m)*sz/\ch=[cr b t (xs++slack)]
theorem OwnS.nil {t:TypeId}{sz:Nat}:OwnS t sz (.slice none 0 0) 0 [] []:=.inl ⟨rfl,rfl,rfl,rfl⟩
theorem OwnS.row {t:TypeId}{sz b m:Nat}{xs:List Value}(hl:xs.length=m*sz):OwnS t sz (.slice (sA b) m m) m xs [cr b t xs]:=
 .inr ⟨b,m,[],rfl,hl,Nat.le_refl _,by simp,by simp⟩
theorem OwnS.len {t:TypeId}{sz:Nat}{v:Value}{m:Nat}{xs:List Value}{ch:List Row}(o:OwnS t sz v m xs ch):xs.length=m*sz:=by
 rcases o with ⟨_,rfl,rfl,_⟩ | ⟨b,cap,slack,_,hl,_⟩
 . simp
 . exact hl
theorem OwnS.val {t:TypeId}{sz:Nat}{v:Value}{m:Nat}{xs:List Value}{ch:List Row}(o:OwnS t sz v m xs ch):∃ A cp,v=.slice A m cp/\(A=none->m=0)/\m<=cp:=by
 rcases o with ⟨rfl,rfl,rfl,_⟩ | ⟨b,cap,slack,rfl,_,hc,_⟩
 . exact⟨_,_,rfl,fun _=>rfl,Nat.le_refl _⟩
 . exact⟨_,_,rfl,fun h=>(by cases h),hc⟩
theorem OwnS.src {W:World}{B:Nat}{t:TypeId}{sz:Nat}{A:Option Addr}{m cp:Nat}{xs:List Value}{ch:List Row}(o:OwnS t sz (.slice A m cp) m xs ch):Src W B ch A xs:=by
 rcases o with ⟨_,rfl,rfl,_⟩ | ⟨b,cap,slack,hv,_,hc,_,rfl⟩
 . exact .nil
 . injection hv with h1 _ _
   subst h1
   exact .row (fun j v hj=>by
    rw [Nat.zero_add,List.getElem?_append_left]
    . exact hj
    . exact (List.getElem?_eq_some_iff.1 hj).1)
section
variable {P:Program}{n:Nat}{c:Ctx}{Q:Exit->Act->World->Prop}{e:Env}{h:Heap}{ops:Array Oper}{rest:List Oper}
theorem cut_appendCap (need old:Nat)(el:TypeId)(t:Nat):need<=(Question.appendCap need old el).cut t:=by simp [Question.cut]
theorem run_append_fit {w:World}{t t2 ty el m k sz cap:Nat}{base:Option Addr}{x:Value}{ys:List Value}{d2:TypeDesc}{i:TypeInfo}(ht:P.underlying t=some (.slice el))(ht2:P.underlying t2=some d2)(hd2:d2=.string\/∃ q,d2=.slice q)
  (hi:P.info? el=some i) (hs:i.size=sz) (hlen:(Builtin.lenOf x).run P w=.ok k w) (hf:(Builtin.firstCells sz k x).run P w=.ok ys.toArray w) (hfit:m+k<=cap) :
  (Builtin.append_ #[t,t2] ty #[.slice base m cap,x]).run P w=(match base with
   | some a=>((storeCells (a.add (m*sz)) ys).run P w).andThen fun _ w'=>.ok (.slice base (m+k) cap) w'
   | none=>.ok (.slice base (m+k) cap) w):=by
 subst hs
 rcases hd2 with rfl | ⟨q,rfl⟩<;>cases base<;>simp [Builtin.append_,run_underlying ht,run_underlying ht2,sizeOf,typeInfo,hi,hlen,hf,hfit]
theorem run_append_new {w:World}{t t2 ty el m k sz by_ cap:Nat}{base:Option Addr}{x z:Value}{xs ys:List Value}{d2:TypeDesc}{i:TypeInfo}(ht:P.underlying t=some (.slice el))(ht2:P.underlying t2=some d2)(hd2:d2=.string\/∃ q,d2=.slice q)
  (hi:P.info? el=some i) (hz:i.zero=some z) (hs:i.size=sz) (hb:i.bytes=by_) (hlen:(Builtin.lenOf x).run P w=.ok k w) (hf:(Builtin.firstCells sz k x).run P w.drew=.ok ys.toArray w.drew)
  (hf0:(Builtin.firstCells sz m (.slice base m cap)).run P w.drew=.ok xs.toArray w.drew) (hnofit:cap<m+k) (h63:m+k<=9223372036854775807) (h48:Builtin.nextslicecap (m+k) cap*by_<=281474976710656) :
  (Builtin.append_ #[t,t2] ty #[.slice base m cap,x]).run P w=.ok (.slice (some ⟨w.heap.size,0,none⟩) (m+k) (grownCap w (m+k) cap el))
   (w.drew.alloc (.cells (xs.toArray++ys.toArray++Builtin.zeroCells z.cells (grownCap w (m+k) cap el-(m+k))) el)):=by
 subst hs hb
 have hn:¬ (m+k<=cap):=by omega
 have h63':¬ (9223372036854775807<((m:Int)+(k:Int))):=by omega
 have h48':¬ (281474976710656<Builtin.nextslicecap (m+k) cap*i.bytes):=by omega
 rcases hd2 with rfl | ⟨q,rfl⟩<;>simp [Builtin.append_,run_underlying ht,run_underlying ht2,sizeOf,typeInfo,zeroValue,hi,hz,hlen,hn,h63',h48',Question.forced,hf,hf0,newRow,grownCap]<;>(congr 2;apply Array.ext';simp)
theorem run_append_own {w:World}{t t2 ty el sz by_ m k:Nat}{v x z:Value}{xs ys:List Value}{ch:List Row}{h':Heap}{d2:TypeDesc}(ht:P.underlying t=some (.slice el))(ht2:P.underlying t2=some d2)(hd2:d2=.string\/∃ q,d2=.slice q)
   (hi:(P.info? el).map (fun i=>(i.zero,i.size,i.bytes))=some (some z,sz,by_)) (hzs:z.cells.size=sz) (s:St c h w) (tk:Take ch h h') (o:OwnS el sz v m xs ch) (hlen:(Builtin.lenOf x).run P w=.ok k w)
   (hfirst:∀ w',St c h w'->(Builtin.firstCells sz k x).run P w'=.ok ys.toArray w') (hyl:ys.length=k*sz) (h1:∀ u∈ys,u.oneCell'=true) (h63:m+k<=9223372036854775807) (hb:(m+k)*by_<=140737488355328) :
   ∃ v' ch' w',(Builtin.append_ #[t,t2] ty #[v,x]).run P w=.ok v' w'/\OwnS el sz v' (m+k) (xs++ys) ch'/\St c (ch'::h') w':=by
 obtain⟨i,hi',hz,rfl,rfl⟩:=info_parts hi
 have hcz:∀ q,(Builtin.zeroCells z.cells q).size=q*i.size:=fun q=>by simp [Builtin.zeroCells,hzs]
 rcases o with ⟨rfl,rfl,rfl,rfl⟩ | ⟨b,cap,slack,rfl,hxl,hmc,hsl,rfl⟩
 . have hs':St c h' w.drew:=(s.drew).sub (Sub.of_perm (by simpa [Take] using tk))
   rcases Nat.eq_zero_or_pos k with rfl | hk
   . have hys:ys=[]:=List.eq_nil_of_length_eq_zero (by simpa using hyl)
     subst hys
     refine⟨.slice none 0 0,[],w,run_append_fit ht ht2 hd2 hi' rfl hlen (hfirst w s) (Nat.le_refl _),.inl ⟨rfl,rfl,rfl,rfl⟩,s.sub (Sub.of_perm (by simpa [Take] using tk))⟩
   . have hcap:0+k<=grownCap w (0+k) 0 el:=cut_appendCap _ _ _ _
     have hrun:=run_append_new (P:=P) (w:=w) (ty:=ty) (base:=none) (m:=0) (cap:=0) (xs:=[]) ht ht2 hd2 hi' hz rfl rfl hlen (hfirst _ s.drew) (by simp [Builtin.firstCells]) (by omega) (by omega) (by
       rw [Nat.zero_add,nextslicecap_zero hk]
       simp at hb;omega)
     refine⟨_,_,_,hrun,.inr ⟨w.heap.size,_,(Builtin.zeroCells z.cells (grownCap w (0+k) 0 el-(0+k))).toList,rfl,by simpa using hyl,hcap,by simp [hcz],rfl⟩,?_⟩
     have h0:=hs'.alloc (.cells ([].toArray++ys.toArray++Builtin.zeroCells z.cells (grownCap w (0+k) 0 el-(0+k))) el)
     have hA:([].toArray++ys.toArray++Builtin.zeroCells z.cells (grownCap w (0+k) 0 el-(0+k)):Array Value)=([]++ys++(Builtin.zeroCells z.cells (grownCap w (0+k) 0 el-(0+k))).toList).toArray:=by apply Array.ext';simp
     rw [hA] at h0 |-
     exact h0
 . rcases Nat.lt_or_ge cap (m+k) with hg | hg
   . have hcap:m+k<=grownCap w (m+k) cap el:=cut_appendCap _ _ _ _
     have hf0:∀ w',St c h w'->(Builtin.firstCells i.size m (.slice (sA b) m cap)).run P w'=.ok xs.toArray w':=fun w' s'=>
       run_firstCells_some w' i.size m _ m cap xs hxl (fun j u hj=>by
        rw [Addr.add_mid,Nat.zero_add]
        refine s'.cell tk ?_
        rw [List.getElem?_append_left (List.getElem?_eq_some_iff.1 hj).1]
        exact hj)
     have hrun:=run_append_new (P:=P) (w:=w) (ty:=ty) ht ht2 hd2 hi' hz rfl rfl hlen (hfirst _ s.drew) (hf0 _ s.drew) hg h63 (growslice_fits (by omega) hb)
     refine⟨_,_,_,hrun,.inr ⟨w.heap.size,_,(Builtin.zeroCells z.cells (grownCap w (m+k) cap el-(m+k))).toList,rfl,by rw [List.length_append,hxl,hyl,Nat.add_mul],hcap,by simp [hcz],rfl⟩,?_⟩
     have hs':St c h' w.drew:=(s.drew).sub ⟨[cr b el (xs++slack)],(List.perm_append_comm).trans tk⟩
     have h0:=hs'.alloc (.cells (xs.toArray++ys.toArray++Builtin.zeroCells z.cells (grownCap w (m+k) cap el-(m+k))) el)
     have hA:(xs.toArray++ys.toArray++Builtin.zeroCells z.cells (grownCap w (m+k) cap el-(m+k)):Array Value)=(xs++ys++(Builtin.zeroCells z.cells (grownCap w (m+k) cap el-(m+k))).toList).toArray:=by apply Array.ext';simp
     rw [hA] at h0 |-
     exact h0
   . have hfitl:m*i.size+ys.length<=(xs++slack).length:=by
       rw [List.length_append,hxl,hsl,hyl,<- Nat.add_mul,<- Nat.add_mul]
       exact Nat.mul_le_mul_right _ (by omega)
     have hst:=run_storeCells_at P b (m*i.size) el ys 0 (xs++slack).toArray w (s.row tk) (by simpa using hfitl) h1
     simp only [Nat.add_zero] at hst
     have hrun:=run_append_fit (P:=P) (w:=w) (ty:=ty) (base:=some ⟨b,0,none⟩) ht ht2 hd2 hi' rfl hlen (hfirst w s) hg
     simp only [Addr.add_mid,Nat.zero_add,hst,Result.andThen_ok] at hrun
     refine⟨_,[cr b el ((xs++slack).take (m*i.size)++ys++(xs++slack).drop (m*i.size+ys.length))],_,hrun,.inr ⟨b,cap,slack.drop ys.length,rfl,by rw [List.length_append,hxl,hyl,Nat.add_mul],hg,?_,?_⟩,s.setRow tk⟩
     . rw [List.length_drop,hsl,hyl,<- Nat.sub_mul]
       congr 1
       omega
     . congr 2
       rw [<- hxl,List.take_left,List.append_assoc,List.append_assoc,List.drop_append,List.drop_eq_nil_of_le (by omega:xs.length<=xs.length+ys.length),Nat.add_sub_cancel_left,List.nil_append]
theorem LW.append {d ty t t2 el sz by_ m k:Nat}{pos:String}{af:Array Edge}{x y:Operand}{v u z:Value}{xs:List Value}{ch:List Row}{h':Heap}{d2:TypeDesc}(ys:List Value)(hx:e.ev x=some v)(hy:e.ev y=some u)(ht:P.underlying t=some (.slice el))(ht2:P.underlying t2=some d2)(hd2:d2=.string\/∃ q,d2=.slice q)
  (hi:(P.info? el).map (fun i=>(i.zero,i.size,i.bytes))=some (some z,sz,by_)) (hzs:z.cells.size=sz) (o:OwnS el sz v m xs ch) (tk:Take ch h h') (hlen:∀ w,(Builtin.lenOf u).run P w=.ok k w)
  (hfirst:∀ w',St c h w'->(Builtin.firstCells sz k u).run P w'=.ok ys.toArray w') (hyl:ys.length=k*sz) (h1:∀ u∈ys,u.oneCell'=true) (h63:m+k<=9223372036854775807) (hb:(m+k)*by_<=140737488355328) (hd:Nat.blt d n=true)
  (kk:∀ v' ch',OwnS el sz v' (m+k) (xs++ys) ch'->LW P n c ops Q rest ((d,v')::e) (ch'::h')) :
  LW P n c ops Q (⟨some d,.call { callee:=.builtin .append,args:=#[x,y],argTypes:=#[t,t2] },ty,pos,af,none⟩::rest) e h:=
 LW.act hd fun a w hf s=>by
  obtain⟨v',ch',w',hrun,ho,hs'⟩:=run_append_own (P:=P) (ty:=ty) ht ht2 hd2 hi hzs s tk o (hlen w) hfirst hyl h1 h63 hb
  refine⟨v',ch'::h',w',?_,hs',kk v' ch' ho⟩
  simp only [execOp,resolve,invoke,builtin,List.map_toArray,List.map_cons,List.map_nil,hf.eval hx,hf.eval hy,Sem.run_bind,Sem.run_pure,Result.andThen_ok,hrun]
theorem lenOf_slice (A:Option Addr)(l cp:Nat)(w:World):(Builtin.lenOf (.slice A l cp)).run P w=.ok l w:=rfl
theorem lenOf_string (s:ByteArray)(w:World):(Builtin.lenOf (.string s)).run P w=.ok s.size w:=rfl
theorem first_string (s:ByteArray)(w:World):(Builtin.firstCells 1 s.size (.string s)).run P w=.ok (s.data.toList.map fun b=>Value.int .u8 (b.toNat:Int)).toArray w:=by
 simp only [Builtin.firstCells,Sem.run_pure]
 congr 1
 apply Array.ext'
 have:(s.extract 0 s.size)=s:=by simp
 rw [this]
 simp
theorem first_rd {A:Option Addr}{l cp sz:Nat}{ys:List Value}(k:RdAt c h A ys)(hl:ys.length=l*sz)(hA:A=none->l=0):∀ w',St c h w'->(Builtin.firstCells sz l (.slice A l cp)).run P w'=.ok ys.toArray w':=
 fun w' s'=>run_firstCells_rd k s' hl (fun h0=>by rw [hA h0];simp)
end
open Go.RowKit
def u8v (b:UInt8):Value:=.int .u8 (b.toNat:Int)
def strV (l:List UInt8):Value:=.string ⟨l.toArray⟩
theorem u8vs_one (l:List UInt8):∀ v∈l.map u8v,v.oneCell'=true:=by
 intro v hv
 obtain⟨b,_,rfl⟩:=List.mem_map.1 hv
 rfl
section
variable {P:Program}{n:Nat}{c:Ctx}{Q:Exit->Act->World->Prop}{e:Env}{h:Heap}{ops:Array Oper}{rest:List Oper}{d ty:Nat}{pos:String}{af:Array Edge}
theorem run_bytes_rd {w:World}{src dst el:TypeId}{A:Option Addr}{l cp:Nat}{bs:List UInt8}(hs:P.underlying src=some (.slice el))(he:P.underlying el=some (.int .u8))(hd:P.underlying dst=some .string)
   (k:RdAt c h A (bs.map u8v)) (s:St c h w) (hl:l=bs.length):(convert src dst (.slice A l cp)).run P w=.ok (strV bs) w:=by
 subst hl
 rcases k with hn | ⟨a,rfl,hx⟩
 . have:bs=[]:=by simpa using hn
   subst this
   rw [run_convert_bytes_string w src dst el A _ cp hs he hd]
   cases A with
   | none=>simp [Conv.bytesToString,strV];rfl
   | some a=>
    have hl0:=run_loadCells_list (P:=P) w a [] (fun j v hj=>by simp at hj)
    have:=run_bytesToString (P:=P) w a 0 cp [] (by simpa using hl0)
    exact this
 . exact run_convert_bytes_back w src dst el a cp bs hs he hd (fun j hj=>hx w s j _ (by simp [hj,u8v]))
theorem LW.bytesStr {src dst el:Nat}{x:Operand}{A:Option Addr}{l cp:Nat}(bs:List UInt8)(hx:e.ev x=some (.slice A l cp))(hs:P.underlying src=some (.slice el))(he:P.underlying el=some (.int .u8))(hd':P.underlying dst=some .string)
  (k:RdAt c h A (bs.map u8v)) (hl:l=bs.length) (hd:Nat.blt d n=true) (kk:LW P n c ops Q rest ((d,strV bs)::e) h):LW P n c ops Q (⟨some d,.convert src dst x,ty,pos,af,none⟩::rest) e h:=
 LW.val _ hd (fun a w hf s=>by simp [execOp,hf.eval hx,run_bytes_rd hs he hd' k s hl]) kk
theorem LW.indexAt {t el sz:Nat}{x y:Operand}{a:Addr}{l cp:Nat}{ki:IntKind}{p:Int}(hx:e.ev x=some (.slice (some a) l cp))(hy:e.ev y=some (.int ki p))(ht:P.underlying t=some (.slice el))
  (hsz:(P.info? el).map (·.size)=some sz) (h0:0<=p) (h1:p<(l:Int)) (hd:Nat.blt d n=true) (k:LW P n c ops Q rest ((d,.pointer (some (a.add (p.toNat*sz))))::e) h) :
  LW P n c ops Q (⟨some d,.indexAddr t x y,ty,pos,af,none⟩::rest) e h:=
 LW.val _ hd (fun a w hf _=>by
  obtain⟨i,hi,rfl⟩:=Option.map_eq_some_iff.1 hsz
  simp [execOp,hf.eval hx,hf.eval hy,Instr.indexAt,run_underlying ht,asIntOf,h0,h1,sizeOf,typeInfo,hi]) k
theorem LW.loadRd {t:Nat}{x:Operand}{a:Addr}{j:Nat}{v:Value}{xs:List Value}(hx:e.ev x=some (.pointer (some (a.add j))))(hr:RdAt c h (some a) xs)(hv:xs[j]?=some v)(ht:oneB P t=true)
  (hd:Nat.blt d n=true) (k:LW P n c ops Q rest ((d,v)::e) h):LW P n c ops Q (⟨some d,.load t x,ty,pos,af,none⟩::rest) e h:=
 LW.val v hd (fun a w hf s=>by
  rcases hr with rfl | ⟨a',ha,hr⟩
  . simp at hv
  . cases ha
    simp [execOp,hf.eval hx,run_loadAt_one ht (hr w s j v hv)]) k
theorem Yl.indexAt {S:World->Prop}{t el sz:Nat}{x y:Operand}{a:Addr}{l cp:Nat}{ki:IntKind}{p:Int}(hx:e.ev x=some (.slice (some a) l cp))(hy:e.ev y=some (.int ki p))(ht:P.underlying t=some (.slice el))
  (hsz:(P.info? el).map (·.size)=some sz) (h0:0<=p) (h1:p<(l:Int)):Yl P n S e ⟨some d,.indexAddr t x y,ty,pos,af,none⟩ (.pointer (some (a.add (p.toNat*sz)))):=
 fun a w hf _=>by
  obtain⟨i,hi,rfl⟩:=Option.map_eq_some_iff.1 hsz
  simp [execOp,hf.eval hx,hf.eval hy,Instr.indexAt,run_underlying ht,asIntOf,h0,h1,sizeOf,typeInfo,hi]
theorem Yl.loadRd {t:Nat}{x:Operand}{a:Addr}{j:Nat}{v:Value}{xs:List Value}(hx:e.ev x=some (.pointer (some (a.add j))))(hr:RdAt c h (some a) xs)(hv:xs[j]?=some v)(ht:oneB P t=true) :
 Yl P n (St c h) e ⟨some d,.load t x,ty,pos,af,none⟩ v:=fun a w hf s=>by
 rcases hr with rfl | ⟨a',ha,hr⟩
 . simp at hv
 . cases ha
   simp [execOp,hf.eval hx,run_loadAt_one ht (hr w s j v hv)]
theorem strV_beq (a b:List UInt8):(strV a=strV b)↔a=b:=by
 constructor
 . intro h
   simp only [strV,Value.string.injEq,ByteArray.mk.injEq] at h
   simpa using congrArg Array.toList h
 . rintro rfl;rfl
theorem LW.strEql {xt yt:Nat}{x y:Operand}{a b:ByteArray}(r:Bool)(hx:e.ev x=some (.string a))(hy:e.ev y=some (.string b))(_ht:P.underlying xt=some .string)(hr:decide (a.data.toList=b.data.toList)=r)(hd:Nat.blt d n=true)(k:LW P n c ops Q rest ((d,.bool r)::e) h) :
  LW P n c ops Q (⟨some d,.binOp .eql xt x y yt,ty,pos,af,none⟩::rest) e h:=
 LW.val _ hd (fun w hw hf _=>by
  subst hr
  simp [execOp,hf.eval hx,hf.eval hy,eqGuard_at_string,binOp,Op.stringOp,ByteArray.toList_eq]
  by_cases hab:a.data=b.data<;>simp [hab]) k
end
open Go.RowKit
structure DevS where
 now:List (List UInt8)
 was:List (List UInt8)
 loose:List Bool
 down:Bool
 fused:Bool
 fuse:Int
def Secs (n:Nat)(l:List (List UInt8)):Prop:=l.length=n/\∀ x∈l,x.length=64
structure DevS.Ok (n:Nat)(s:DevS):Prop where
 now:Secs n s.now
 was:Secs n s.was
 loose:s.loose.length=n
 lo:-9223372036854775808<=s.fuse
 hi:s.fuse<=9223372036854775807
 live:s.down=false->s.fused=true->0<s.fuse
 n0:64<=n
 n1:n<=4096
def zSec:List UInt8:=List.replicate 64 0
def DevS.zero (n:Nat):DevS:=⟨List.replicate n zSec,List.replicate n zSec,List.replicate n false,false,false,0⟩
def isB (n:Nat)(i:Int):Bool:=decide (0<=i) && decide (i<(n:Int))
def DevS.burn (s:DevS):DevS:=if s.fused then { s with fuse:=s.fuse-1,down:=decide (s.fuse-1<=0) } else s
def DevS.put (s:DevS)(i:Nat)(b:List UInt8):DevS:={ s with now:=s.now.set i b,loose:=s.loose.set i true }
def DevS.err (n:Nat)(s:DevS)(i:Int)(l:Nat):Int:=if s.down then 9 else if isB n i then (if l=64 then 0 else 1) else 2
def DevS.write (n:Nat)(s:DevS)(i:Int)(b:List UInt8):DevS:=if s.err n i b.length=0 then (s.put i.toNat b).burn else s
def DevS.flushE (s:DevS):Int:=if s.down then 9 else 0
def DevS.saved (n:Nat)(s:DevS):DevS:={ s with was:=s.now,loose:=List.replicate n false }
def DevS.flush (n:Nat)(s:DevS):DevS:=if s.down then s else (s.saved n).burn
def looseTo (s:DevS)(m:Nat):List Nat:=(List.range m).filter fun i=>s.loose.getD i false
def DevS.kept (s:DevS)(L:List Nat)(keep:List Bool)(m:Nat):List (List UInt8):=
 (List.range m).foldl (fun x k=>if keep.getD k false then x else x.set (L.getD k 0) (s.was.getD (L.getD k 0) [])) s.now
def DevS.crash (n:Nat)(s:DevS)(keep:List Bool):DevS:=
 let x:=s.kept (looseTo s n) keep (looseTo s n).length
 ⟨x,x,List.replicate n false,false,false,0⟩
def secV (l:List (List UInt8)):List Value:=l.flatten.map u8v
theorem flat_take (l:List (List UInt8))(hl:∀ x∈l,x.length=64)(i:Nat):l.flatten.take (i*64)=(l.take i).flatten:=by
 induction l generalizing i with
 | nil=>simp
 | cons x r ih=>
  cases i with
  | zero=>simp
  | succ i=>
   have hx:=hl x (by simp)
   rw [List.flatten_cons,List.take_append,List.take_succ_cons,List.flatten_cons,<- ih (fun y hy=>hl y (by simp [hy])) i,hx]
   rw [List.take_of_length_le (by omega)]
   congr 2
   omega
theorem flat_drop (l:List (List UInt8))(hl:∀ x∈l,x.length=64)(i:Nat):l.flatten.drop (i*64)=(l.drop i).flatten:=by
 induction l generalizing i with
 | nil=>simp
 | cons x r ih=>
  cases i with
  | zero=>simp
  | succ i=>
   have hx:=hl x (by simp)
   rw [List.flatten_cons,List.drop_append,List.drop_succ_cons,<- ih (fun y hy=>hl y (by simp [hy])) i,hx]
   rw [List.drop_eq_nil_of_le (by omega)]
   simp only [List.nil_append]
   congr 1
   omega
theorem flat_len (l:List (List UInt8))(hl:∀ x∈l,x.length=64):l.flatten.length=l.length*64:=by
 induction l with
 | nil=>rfl
 | cons x r ih=>rw [List.flatten_cons,List.length_append,ih (fun y hy=>hl y (by simp [hy])),hl x (by simp),List.length_cons];omega
theorem secV_len {n:Nat}{l:List (List UInt8)}(h:Secs n l):(secV l).length=n*64:=by rw [secV,List.length_map,flat_len l h.2,h.1]
theorem secV_get {n:Nat}{l:List (List UInt8)}(h:Secs n l){i:Nat}{x:List UInt8}(hi:l[i]?=some x):∀ j v,(x.map u8v)[j]?=some v->(secV l)[i*64+j]?=some v:=by
 intro j v hj
 have h1:(secV l).drop (i*64)=(l.drop i).flatten.map u8v:=by rw [secV,<- List.map_drop,flat_drop l h.2]
 have hlt:i<l.length:=(List.getElem?_eq_some_iff.1 hi).1
 have h2:l.drop i=x::l.drop (i+1):=by
  rw [List.drop_eq_getElem_cons hlt]
  congr 1
  exact (List.getElem?_eq_some_iff.1 hi).2
 rw [<- List.getElem?_drop,h1,h2,List.flatten_cons,List.map_append,List.getElem?_append_left (List.getElem?_eq_some_iff.1 hj).1]
 exact hj
theorem Secs.get {n:Nat}{l:List (List UInt8)}(h:Secs n l){i:Nat}{x:List UInt8}(hi:l[i]?=some x):x.length=64:=h.2 x (List.mem_of_getElem? hi)
theorem Secs.set {n:Nat}{l:List (List UInt8)}(h:Secs n l){i:Nat}{x:List UInt8}(hx:x.length=64):Secs n (l.set i x):=by
 refine⟨by rw [List.length_set];exact h.1,fun y hy=>?_⟩
 rcases List.mem_or_eq_of_mem_set hy with h1 | rfl
 . exact h.2 _ h1
 . exact hx
theorem secV_set {n:Nat}{l:List (List UInt8)}(h:Secs n l){i:Nat}(hi:i<n){b:List UInt8}(_hb:b.length=64){o k:Nat}(ho:o=i*64)(hk:k=i*64+64):(secV l).take o++b.map u8v++(secV l).drop k=secV (l.set i b):=by
 subst ho hk
 have h1:i<l.length:=by rw [h.1];exact hi
 have h2:(secV l).drop (i*64+64)=(l.drop (i+1)).flatten.map u8v:=by
  rw [show i*64+64=(i+1)*64 by omega,secV,<- List.map_drop,flat_drop l h.2]
 rw [h2,secV,<- List.map_take,flat_take l h.2,secV,List.set_eq_take_append_cons_drop,if_pos h1]
 simp
theorem secV_rep (n:Nat):secV (List.replicate n zSec)=List.replicate (n*64) (u8v 0):=by
 rw [secV,zSec,List.flatten_replicate_replicate,List.map_replicate]
theorem secV_one (l:List (List UInt8)):∀ v∈secV l,v.oneCell'=true:=u8vs_one _
theorem Secs.rep (n:Nat):Secs n (List.replicate n zSec):=⟨by simp,fun x hx=>by rw [(List.mem_replicate.1 hx).2];rfl⟩
def devHead (bn bw bl n:Nat)(s:DevS):List Value:=[.slice (sA bn) n n,.slice (sA bw) n n,.slice (sA bl) n n,.bool s.down,.bool s.fused,.int .i64 s.fuse]
def devC (p bn bw bl n:Nat)(s:DevS):List Row:=
 [cr p 77 (devHead bn bw bl n s),cr bn 220 (secV s.now),cr bw 220 (secV s.was),cr bl 4 (s.loose.map .bool)]
theorem Sub.four {a b c d:Row}{h h1 h2 h3 h4:Heap}(k1:Take [a] h h1)(k2:Take [b] h1 h2)(k3:Take [c] h2 h3)(k4:Take [d] h3 h4):Sub [a,b,c,d] h.flatten:=
 Sub.take (p:=[a]) k1 (Sub.take (p:=[b]) k2 (Sub.take (p:=[c]) k3 (Sub.one k4)))
theorem Take.four {a b c d:Row}{h h1 h2 h3 h4:Heap}(k1:Take [a] h h1)(k2:Take [b] h1 h2)(k3:Take [c] h2 h3)(k4:Take [d] h3 h4):Take [a,b,c,d] h h4:=
 Take.both k1 (Take.both k2 (Take.both k3 k4))
theorem LW.open4 {P:Program}{n:Nat}{c:Ctx}{Q:Exit->Act->World->Prop}{e:Env}{h:Heap}{ops:Array Oper}{rest:List Oper}{a b d f:Row}(k:LW P n c ops Q rest e ([a]::[b]::[d]::[f]::h)):LW P n c ops Q rest e ([a,b,d,f]::h):=k.heap (Sub.of_perm (by simp))
theorem whole {l cs:List Value}{k:Nat}(h:l.length=cs.length)(hk:k=cs.length):l.take 0++cs++l.drop k=cs:=by
 rw [hk,<- h];simp
def intV (i:Nat):Value:=iN i
section
variable {P:Program}{n:Nat}{c:Ctx}{Q:Exit->Act->World->Prop}{e:Env}{h:Heap}{ops:Array Oper}{rest:List Oper}
theorem LW.split2 {a b:List Row}(k:LW P n c ops Q rest e (a::b::h)):LW P n c ops Q rest e ((a++b)::h):=k.heap (Sub.of_perm (by simp))
theorem LW.split2p {x a b:List Row}(k:LW P n c ops Q rest e (x::a::b::h)):LW P n c ops Q rest e (x::(a++b)::h):=k.heap (Sub.of_perm (by simp))
theorem LW.split1 {a:Row}{b:List Row}(k:LW P n c ops Q rest e ([a]::b::h)):LW P n c ops Q rest e ((a::b)::h):=k.heap (Sub.of_perm (by simp))
end
theorem LW.open4p {P:Program}{n:Nat}{c:Ctx}{Q:Exit->Act->World->Prop}{e:Env}{h:Heap}{ops:Array Oper}{rest:List Oper}{x:List Row}{a b d f:Row}(k:LW P n c ops Q rest e (x::[a]::[b]::[d]::[f]::h)):LW P n c ops Q rest e (x::[a,b,d,f]::h):=k.heap (Sub.of_perm (by simp))
theorem Src.some {W:World}{B:Nat}{src:List Row}{A:Option Addr}{xs:List Value}(k:Src W B src A xs)(h:0<xs.length):∃ a,A=Option.some a:=by
 rcases k with rfl | ⟨a,rfl,_⟩
 . simp at h
 . exact⟨a,rfl⟩
theorem Sub.app {p q:List Row}{h h1:Heap}(k:Take p h h1)(s:Sub q h1.flatten):Sub (p++q) h.flatten:=Sub.take k s
theorem Sub.devs {a b c d:Row}{q:List Row}{h h1 h2 h3 h4:Heap}(k1:Take [a] h h1)(k2:Take [b] h1 h2)(k3:Take [c] h2 h3)(k4:Take [d] h3 h4)(s:Sub q h4.flatten):Sub ([a,b,c,d]++q) h.flatten:=
 Sub.take (Take.four k1 k2 k3 k4) s
theorem DevS.Ok.zero {n:Nat}(h0:64<=n)(h1:n<=4096):(DevS.zero n).Ok n:=
 { now:=Secs.rep n,was:=Secs.rep n,loose:=by simp [DevS.zero],lo:=by simp [DevS.zero],hi:=by simp [DevS.zero],live:=fun _ h=>by simp [DevS.zero] at h,n0:=h0,n1:=h1 }
theorem DevS.Ok.burn {n:Nat}{s:DevS}(h:s.Ok n)(hd:s.down=false):s.burn.Ok n:=by
 unfold DevS.burn
 by_cases hf:s.fused=true
 . have:=h.live hd hf
   have:=h.hi
   rw [if_pos hf]
   refine⟨h.now,h.was,h.loose,by simp only;omega,by simp only;omega,fun hd' _=>?_,h.n0,h.n1⟩
   simp only [decide_eq_false_iff_not] at hd'
   simp only
   omega
 . rw [if_neg hf];exact h
theorem DevS.Ok.put {n:Nat}{s:DevS}(h:s.Ok n){i:Nat}{b:List UInt8}(hb:b.length=64):(s.put i b).Ok n:=
 ⟨h.now.set hb,h.was,by simp [DevS.put,h.loose],h.lo,h.hi,h.live,h.n0,h.n1⟩
theorem DevS.Ok.saved {n:Nat}{s:DevS}(h:s.Ok n):(s.saved n).Ok n:=⟨h.now,h.now,by simp [DevS.saved],h.lo,h.hi,h.live,h.n0,h.n1⟩
theorem DevS.err_zero {n:Nat}{s:DevS}{i:Int}{l:Nat}(h:s.err n i l=0):s.down=false/\0<=i/\i<(n:Int)/\l=64:=by
 unfold DevS.err isB at h
 cases hd:s.down<;>simp [hd] at h
 by_cases h0:0<=i<;>by_cases h1:i<(n:Int)<;>by_cases h2:l=64<;>simp_all
theorem DevS.Ok.write {n:Nat}{s:DevS}(h:s.Ok n)(i:Int)(b:List UInt8):(s.write n i b).Ok n:=by
 unfold DevS.write
 split
 . rename_i he
   obtain⟨hd,_,_,hl⟩:=DevS.err_zero he
   exact (h.put hl).burn hd
 . exact h
theorem DevS.Ok.flush {n:Nat}{s:DevS}(h:s.Ok n):(s.flush n).Ok n:=by
 unfold DevS.flush
 cases hd:s.down
 . simp;exact h.saved.burn hd
 . simp;exact h
theorem DevS.kept_succ (s:DevS)(L:List Nat)(keep:List Bool)(m:Nat):s.kept L keep (m+1)=if keep.getD m false then s.kept L keep m else (s.kept L keep m).set (L.getD m 0) (s.was.getD (L.getD m 0) []):=by
 simp [DevS.kept,List.range_succ,List.foldl_append]
theorem looseTo_succ (s:DevS)(m:Nat):looseTo s (m+1)=looseTo s m++if s.loose.getD m false then [m] else []:=by
 simp only [looseTo,List.range_succ,List.filter_append]
 cases hq:s.loose.getD m false<;>simp [hq,-List.getD_eq_getElem?_getD]
theorem looseTo_lt {s:DevS}{m i:Nat}(h:i∈looseTo s m):i<m:=by
 simp [looseTo] at h
 exact h.1
theorem looseTo_len (s:DevS)(m:Nat):(looseTo s m).length<=m:=by
 have:=List.length_filter_le (fun i=>s.loose.getD i false) (List.range m)
 simpa [looseTo] using this
theorem Secs.getD {n:Nat}{l:List (List UInt8)}(h:Secs n l){i:Nat}(hi:i<n):l[i]?=some (l.getD i []):=by
 have:i<l.length:=by rw [h.1];exact hi
 simp [List.getD,List.getElem?_eq_getElem this]
theorem DevS.Ok.kept {n:Nat}{s:DevS}(h:s.Ok n)(keep:List Bool)(m:Nat)(hm:m<=(looseTo s n).length):Secs n (s.kept (looseTo s n) keep m):=by
 induction m with
 | zero=>exact h.now
 | succ m ih=>
  rw [DevS.kept_succ]
  split
  . exact ih (by omega)
  . refine (ih (by omega)).set ?_
    have hg:(looseTo s n)[m]?=some ((looseTo s n).getD m 0):=by simp [List.getD,List.getElem?_eq_getElem (show m<(looseTo s n).length by omega)]
    exact h.was.get (h.was.getD (looseTo_lt (List.mem_of_getElem? hg)))
theorem DevS.Ok.crash {n:Nat}{s:DevS}(h:s.Ok n)(keep:List Bool):(s.crash n keep).Ok n:=
 ⟨h.kept keep _ (Nat.le_refl _),h.kept keep _ (Nat.le_refl _),by simp [DevS.crash],by simp [DevS.crash],by simp [DevS.crash],fun _ hf=>by simp [DevS.crash] at hf,h.n0,h.n1⟩
open Go.RowKit
section
variable (W:World)(B:Nat)
theorem dev_Down (p bn bw bl n:Nat)(s:DevS):Spec prog W B 158 [ptr p] (devC p bn bw bl n s) (fun v post=>v=.bool s.down/\post=devC p bn bw bl n s):=by
 refine Spec.enterG ([[cr p 77 (devHead bn bw bl n s)],[cr bn 220 (secV s.now)],[cr bw 220 (secV s.was)],[cr bl 4 (s.loose.map .bool)]]) func158 rfl ntmps158 rfl (by first | rfl | simp [devC]) (fun w0=>?_)
 refine CW.go ui 8 rfl (LW.pn underlying45 ?_)
 refine LW.go ui 8 rfl (LW.ld one4 ?_)
 refine LW.go ui 5 rfl ?_
 refine NW.r1 ⟨_,⟨rfl,rfl⟩,?_⟩
 exact Sub.four .t .t .t .t
end
open Go.RowKit
section
variable (W:World)(B:Nat)
theorem dev_is (p bn bw bl n:Nat)(s:DevS)(i:Int):Spec prog W B 157 [ptr p,.int .i64 i] (devC p bn bw bl n s) (fun v post=>v=.bool (isB n i)/\post=devC p bn bw bl n s):=by
 by_cases h0:0<=i
 . by_cases h1:i<(n:Int)
   . have hb:isB n i=true:=by simp [isB,h0,h1]
     rw [hb]
     refine Spec.enterG ([[cr p 77 (devHead bn bw bl n s)],[cr bn 220 (secV s.now)],[cr bw 220 (secV s.was)],[cr bl 4 (s.loose.map .bool)]]) func157 rfl ntmps157 rfl (by first | rfl | simp [devC]) (fun w0=>?_)
     refine CW.go ui 8 rfl (LW.geqT ?_)
     refine LW.go ui 10 rfl (LW.ld one75 ?_)
     refine LW.go ui 3 rfl (LW.lssT ?_)
     refine LW.go ui 5 rfl ?_
     refine NW.r1 ⟨_,⟨rfl,rfl⟩,?_⟩
     exact Sub.four .t .t .t .t
   . have hb:isB n i=false:=by simp [isB,h1]
     rw [hb]
     refine Spec.enterG ([[cr p 77 (devHead bn bw bl n s)],[cr bn 220 (secV s.now)],[cr bw 220 (secV s.was)],[cr bl 4 (s.loose.map .bool)]]) func157 rfl ntmps157 rfl (by first | rfl | simp [devC]) (fun w0=>?_)
     refine CW.go ui 8 rfl (LW.geqT ?_)
     refine LW.go ui 10 rfl (LW.ld one75 ?_)
     refine LW.go ui 3 rfl (LW.lssF ?_)
     refine LW.go ui 5 rfl ?_
     refine NW.r1 ⟨_,⟨rfl,rfl⟩,?_⟩
     exact Sub.four .t .t .t .t
 . have hb:isB n i=false:=by simp [isB,h0]
   rw [hb]
   refine Spec.enterG ([[cr p 77 (devHead bn bw bl n s)],[cr bn 220 (secV s.now)],[cr bw 220 (secV s.was)],[cr bl 4 (s.loose.map .bool)]]) func157 rfl ntmps157 rfl (by first | rfl | simp [devC]) (fun w0=>?_)
   refine CW.go ui 8 rfl (LW.geqF ?_)
   refine LW.go ui 13 rfl ?_
   refine NW.r1 ⟨_,⟨rfl,rfl⟩,?_⟩
   exact Sub.four .t .t .t .t
theorem dev_Sectors (p bn bw bl n:Nat)(s:DevS):Spec prog W B 68 [ptr p] (devC p bn bw bl n s) (fun v post=>v=iN n/\post=devC p bn bw bl n s):=by
 refine Spec.enterG ([[cr p 77 (devHead bn bw bl n s)],[cr bn 220 (secV s.now)],[cr bw 220 (secV s.was)],[cr bl 4 (s.loose.map .bool)]]) func68 rfl ntmps68 rfl (by first | rfl | simp [devC]) (fun w0=>?_)
 refine CW.go ui 9 rfl (LW.pn underlying45 ?_)
 refine LW.go ui 10 rfl (LW.ld one75 ?_)
 refine LW.go ui 5 rfl ?_
 refine NW.r1 ⟨_,⟨rfl,rfl⟩,?_⟩
 exact Sub.four .t .t .t .t
theorem dev_burns (p bn bw bl n:Nat)(s:DevS)(hs:s.Ok n)(hd:s.down=false):Spec prog W B 159 [ptr p] (devC p bn bw bl n s) (fun v post=>v=.tuple #[]/\post=devC p bn bw bl n s.burn):=by
 cases hf:s.fused
 . have hb:s.burn=s:=by simp [DevS.burn,hf]
   rw [hb]
   refine Spec.enterG ([[cr p 77 (devHead bn bw bl n s)],[cr bn 220 (secV s.now)],[cr bw 220 (secV s.was)],[cr bl 4 (s.loose.map .bool)]]) func159 rfl ntmps159 rfl (by first | rfl | simp [devC]) (fun w0=>?_)
   refine CW.go ui 5 rfl (LW.load (v:=.bool false) rfl .t (by simp [devHead,hf]) one4 rfl ?_)
   refine LW.go ui 4 rfl ?_
   refine NW.end0 rfl  ⟨_,⟨rfl,rfl⟩,?_⟩
   exact Sub.four .t .t .t .t
 . have hb:s.burn={ s with fuse:=s.fuse-1,down:=decide (s.fuse-1<=0) }:=by simp [DevS.burn,hf]
   have hl:=hs.live hd hf
   have hh:=hs.hi
   rw [hb]
   refine Spec.enterG ([[cr p 77 (devHead bn bw bl n s)],[cr bn 220 (secV s.now)],[cr bw 220 (secV s.was)],[cr bl 4 (s.loose.map .bool)]]) func159 rfl ntmps159 rfl (by first | rfl | simp [devC]) (fun w0=>?_)
   refine CW.go ui 5 rfl (LW.load (v:=.bool true) rfl .t (by simp [devHead,hf]) one4 rfl ?_)
   refine LW.go ui 8 rfl (LW.load (v:=.int .i64 s.fuse) rfl .t (by simp [devHead]) one3 rfl ?_)
   refine LW.sub (s.fuse-1) rfl rfl w6 rfl ?_
   refine LW.go ui 2 rfl (LW.sr sz3 ?_)
   refine LW.go ui 7 rfl (LW.load (v:=.int .i64 (s.fuse-1)) rfl .t (by simp [devHead]) one3 rfl ?_)
   refine LW.leq (decide (s.fuse-1<=0)) rfl rfl (rfl) rfl ?_
   refine LW.go ui 2 rfl (LW.sr sz4 ?_)
   refine LW.go ui 1 rfl ?_
   refine NW.end0 rfl  ⟨_,⟨rfl,rfl⟩,?_⟩
   exact Sub.four .t .t .t .t
theorem dev_New (n:Nat)(h0:64<=n)(h1:n<=4096):Spec prog W B 12 [iN n] [] (fun v post=>∃ p bn bw bl,v=ptr p/\post=devC p bn bw bl n (DevS.zero n)):=by
 have hz:∀ m,(madeCells (Value.agg (List.replicate 64 (Value.int .u8 0)).toArray).cells (m*64)).toList=secV (List.replicate m zSec):=fun m=>by
   rw [secV_rep]
   exact madeCells_rep _ _ _ (by intro x hx;simp [Value.cells] at hx;exact hx) (by simp [Value.cells])
 have hz1:∀ m,(madeCells (Value.bool false).cells (m*1)).toList=(List.replicate m false).map Value.bool:=fun m=>by
   rw [Nat.mul_one,List.map_replicate]
   exact madeCells_rep _ _ _ (by intro x hx;simp [Value.cells] at hx;exact hx) (by simp [Value.cells])
 refine Spec.eG [] func12 ntmps12 fun w0=>?_
 refine CW.go ui 9 rfl (LW.lssF ?_)
 refine LW.go ui 4 rfl (LW.gtrF ?_)
 refine LW.go ui 7 rfl (CW.drawH [] mixed ?_)
 refine AW.ts [0,2,4] 6 (TW.mv ?_)
 refine TW.mv ?_
 refine TW.mv ?_
 refine TW.nil (AW.all [1,3,5] (by kernel_rfl) rfl ?_)
 refine AWs.cons rfl ?_ ?_
 . refine LW.make (n) (n) (secV (List.replicate n zSec)) rfl rfl (by first | rfl | omega) (by first | rfl | omega) underlying75 info220 (by omega) (by omega) (by omega) (hz n) rfl ?_
   intro bm10
   refine LW.nil (AW.b (AW.all [3,5] (by kernel_rfl) rfl ?_))
   refine AWs.cons rfl ?_ ?_
   . refine LW.make (n) (n) (secV (List.replicate n zSec)) rfl rfl (by first | rfl | omega) (by first | rfl | omega) underlying75 info220 (by omega) (by omega) (by omega) (hz n) rfl ?_
     intro bm12
     refine LW.nil (AW.b (AW.a 5 ?_))
     refine LW.make (n) (n) ((List.replicate n false).map Value.bool) rfl rfl (by first | rfl | omega) (by first | rfl | omega) underlying23 info4 (by omega) (by omega) (by omega) (hz1 n) rfl ?_
     intro bm14
     refine LW.nil (AW.b (AW.ts [6] 2 (TW.take rfl (Yl.build (vs:=[_,_,_]) (#[.slice (sA bm10) n n,.slice (sA bm12) n n,.slice (sA bm14) n n,.bool false,.bool false,.int .i64 0]) ⟨rfl,rfl,rfl,trivial⟩ (by kernel_rfl)) rfl ?_)))
     refine TW.nil (AW.a 7 ?_)
     refine LW.bx ?_
     intro bb16
     refine LW.nil (AW.b (AW.ts [8] 0 (TW.as ?_)))
     refine TW.nil (AW.d ?_)
     refine NW.go ui 2 rfl ?_
     refine NW.r1 ⟨_,⟨bb16,bm10,bm12,bm14,rfl,rfl⟩,?_⟩
     exact Sub.four .t .t .t .t
   refine AWs.cons rfl ?_ ?_
   . refine LW.make (n) (n) ((List.replicate n false).map Value.bool) rfl rfl (by first | rfl | omega) (by first | rfl | omega) underlying23 info4 (by omega) (by omega) (by omega) (hz1 n) rfl ?_
     intro bm14
     refine LW.nil (AW.b (AW.a 3 ?_))
     refine LW.make (n) (n) (secV (List.replicate n zSec)) rfl rfl (by first | rfl | omega) (by first | rfl | omega) underlying75 info220 (by omega) (by omega) (by omega) (hz n) rfl ?_
     intro bm12
     refine LW.nil (AW.b (AW.ts [6] 2 (TW.take rfl (Yl.build (vs:=[_,_,_]) (#[.slice (sA bm10) n n,.slice (sA bm12) n n,.slice (sA bm14) n n,.bool false,.bool false,.int .i64 0]) ⟨rfl,rfl,rfl,trivial⟩ (by kernel_rfl)) rfl ?_)))
     refine TW.nil (AW.a 7 ?_)
     refine LW.bx ?_
     intro bb16
     refine LW.nil (AW.b (AW.ts [8] 0 (TW.as ?_)))
     refine TW.nil (AW.d ?_)
     refine NW.go ui 2 rfl ?_
     refine NW.r1 ⟨_,⟨bb16,bm10,bm12,bm14,rfl,rfl⟩,?_⟩
     exact Sub.four .t .t .t .t
   exact AWs.nil
 refine AWs.cons rfl ?_ ?_
 . refine LW.make (n) (n) (secV (List.replicate n zSec)) rfl rfl (by first | rfl | omega) (by first | rfl | omega) underlying75 info220 (by omega) (by omega) (by omega) (hz n) rfl ?_
   intro bm12
   refine LW.nil (AW.b (AW.all [1,5] (by kernel_rfl) rfl ?_))
   refine AWs.cons rfl ?_ ?_
   . refine LW.make (n) (n) (secV (List.replicate n zSec)) rfl rfl (by first | rfl | omega) (by first | rfl | omega) underlying75 info220 (by omega) (by omega) (by omega) (hz n) rfl ?_
     intro bm10
     refine LW.nil (AW.b (AW.a 5 ?_))
     refine LW.make (n) (n) ((List.replicate n false).map Value.bool) rfl rfl (by first | rfl | omega) (by first | rfl | omega) underlying23 info4 (by omega) (by omega) (by omega) (hz1 n) rfl ?_
     intro bm14
     refine LW.nil (AW.b (AW.ts [6] 2 (TW.take rfl (Yl.build (vs:=[_,_,_]) (#[.slice (sA bm10) n n,.slice (sA bm12) n n,.slice (sA bm14) n n,.bool false,.bool false,.int .i64 0]) ⟨rfl,rfl,rfl,trivial⟩ (by kernel_rfl)) rfl ?_)))
     refine TW.nil (AW.a 7 ?_)
     refine LW.bx ?_
     intro bb16
     refine LW.nil (AW.b (AW.ts [8] 0 (TW.as ?_)))
     refine TW.nil (AW.d ?_)
     refine NW.go ui 2 rfl ?_
     refine NW.r1 ⟨_,⟨bb16,bm10,bm12,bm14,rfl,rfl⟩,?_⟩
     exact Sub.four .t .t .t .t
   refine AWs.cons rfl ?_ ?_
   . refine LW.make (n) (n) ((List.replicate n false).map Value.bool) rfl rfl (by first | rfl | omega) (by first | rfl | omega) underlying23 info4 (by omega) (by omega) (by omega) (hz1 n) rfl ?_
     intro bm14
     refine LW.nil (AW.b (AW.a 1 ?_))
     refine LW.make (n) (n) (secV (List.replicate n zSec)) rfl rfl (by first | rfl | omega) (by first | rfl | omega) underlying75 info220 (by omega) (by omega) (by omega) (hz n) rfl ?_
     intro bm10
     refine LW.nil (AW.b (AW.ts [6] 2 (TW.take rfl (Yl.build (vs:=[_,_,_]) (#[.slice (sA bm10) n n,.slice (sA bm12) n n,.slice (sA bm14) n n,.bool false,.bool false,.int .i64 0]) ⟨rfl,rfl,rfl,trivial⟩ (by kernel_rfl)) rfl ?_)))
     refine TW.nil (AW.a 7 ?_)
     refine LW.bx ?_
     intro bb16
     refine LW.nil (AW.b (AW.ts [8] 0 (TW.as ?_)))
     refine TW.nil (AW.d ?_)
     refine NW.go ui 2 rfl ?_
     refine NW.r1 ⟨_,⟨bb16,bm10,bm12,bm14,rfl,rfl⟩,?_⟩
     exact Sub.four .t .t .t .t
   exact AWs.nil
 refine AWs.cons rfl ?_ ?_
 . refine LW.make (n) (n) ((List.replicate n false).map Value.bool) rfl rfl (by first | rfl | omega) (by first | rfl | omega) underlying23 info4 (by omega) (by omega) (by omega) (hz1 n) rfl ?_
   intro bm14
   refine LW.nil (AW.b (AW.all [1,3] (by kernel_rfl) rfl ?_))
   refine AWs.cons rfl ?_ ?_
   . refine LW.make (n) (n) (secV (List.replicate n zSec)) rfl rfl (by first | rfl | omega) (by first | rfl | omega) underlying75 info220 (by omega) (by omega) (by omega) (hz n) rfl ?_
     intro bm10
     refine LW.nil (AW.b (AW.a 3 ?_))
     refine LW.make (n) (n) (secV (List.replicate n zSec)) rfl rfl (by first | rfl | omega) (by first | rfl | omega) underlying75 info220 (by omega) (by omega) (by omega) (hz n) rfl ?_
     intro bm12
     refine LW.nil (AW.b (AW.ts [6] 2 (TW.take rfl (Yl.build (vs:=[_,_,_]) (#[.slice (sA bm10) n n,.slice (sA bm12) n n,.slice (sA bm14) n n,.bool false,.bool false,.int .i64 0]) ⟨rfl,rfl,rfl,trivial⟩ (by kernel_rfl)) rfl ?_)))
     refine TW.nil (AW.a 7 ?_)
     refine LW.bx ?_
     intro bb16
     refine LW.nil (AW.b (AW.ts [8] 0 (TW.as ?_)))
     refine TW.nil (AW.d ?_)
     refine NW.go ui 2 rfl ?_
     refine NW.r1 ⟨_,⟨bb16,bm10,bm12,bm14,rfl,rfl⟩,?_⟩
     exact Sub.four .t .t .t .t
   refine AWs.cons rfl ?_ ?_
   . refine LW.make (n) (n) (secV (List.replicate n zSec)) rfl rfl (by first | rfl | omega) (by first | rfl | omega) underlying75 info220 (by omega) (by omega) (by omega) (hz n) rfl ?_
     intro bm12
     refine LW.nil (AW.b (AW.a 1 ?_))
     refine LW.make (n) (n) (secV (List.replicate n zSec)) rfl rfl (by first | rfl | omega) (by first | rfl | omega) underlying75 info220 (by omega) (by omega) (by omega) (hz n) rfl ?_
     intro bm10
     refine LW.nil (AW.b (AW.ts [6] 2 (TW.take rfl (Yl.build (vs:=[_,_,_]) (#[.slice (sA bm10) n n,.slice (sA bm12) n n,.slice (sA bm14) n n,.bool false,.bool false,.int .i64 0]) ⟨rfl,rfl,rfl,trivial⟩ (by kernel_rfl)) rfl ?_)))
     refine TW.nil (AW.a 7 ?_)
     refine LW.bx ?_
     intro bb16
     refine LW.nil (AW.b (AW.ts [8] 0 (TW.as ?_)))
     refine TW.nil (AW.d ?_)
     refine NW.go ui 2 rfl ?_
     refine NW.r1 ⟨_,⟨bb16,bm10,bm12,bm14,rfl,rfl⟩,?_⟩
     exact Sub.four .t .t .t .t
   exact AWs.nil
 exact AWs.nil
theorem dev_Read (p bn bw bl n:Nat)(s:DevS)(hs:s.Ok n)(i:Nat)(hi:i<n):Spec prog W B 89 [ptr p,iN i] (devC p bn bw bl n s)
  (fun v post=>∃ q,v=.tuple #[.slice (sA q) 64 64,.int .i64 0]/\post=cr q 220 ((s.now.getD i []).map u8v)::devC p bn bw bl n s):=by
 have hb:isB n (i:Int)=true:=by simp [isB,hi]
 have hx:=hs.now.getD hi
 have hl:=hs.now.get hx
 refine Spec.enterG ([[cr p 77 (devHead bn bw bl n s)],[cr bn 220 (secV s.now)],[cr bw 220 (secV s.was)],[cr bl 4 (s.loose.map .bool)]]) func89 rfl ntmps89 rfl (by first | rfl | simp [devC]) (fun w0=>?_)
 refine CW.go ui 11 rfl (LW.pn underlying45 ?_)
 refine LW.go ui 8 rfl (LW.eT (dev_is _ _ p bn bw bl n s i) cl157 ((Take.four .t .t .t .t)) ?_)
 rw [hb];refine LW.open4 ?_
 refine LW.not (false) rfl (rfl) rfl ?_
 refine LW.go ui 12 rfl (LW.ld one75 ?_)
 refine LW.go ui 1 rfl (LW.indexAddr (i*64) rfl rfl underlying75 ixs75 (by omega) (by omega) (by simp) rfl ?_)
 refine LW.loadAgg ((s.now.getD i []).map u8v) rfl .t (secV_get hs.now hx) underlying220 rfl (by rw [szt220];exact congrArg some (Eq.symm (by rw [List.length_map];exact hl))) rfl ?_
 refine LW.alloc zero220 rfl ?_
 intro ba6
 refine LW.storeAgg ((s.now.getD i []).map u8v) rfl rfl .t (by rw [szt220];exact congrArg some (Eq.symm (by rw [List.length_map];exact hl))) (by rw [List.length_map,hl];decide) (u8vs_one _) (whole (by rw [List.length_map,hl];decide) (by rw [List.length_map];omega)) ?_
 refine LW.go ui 4 rfl (LW.cutArr rfl underlying220 szt5 rfl ?_)
 refine LW.go ui 5 rfl ?_
 refine NW.ret2 rfl rfl rfl ⟨_,⟨_,rfl,rfl⟩,?_⟩
 exact Sub.take (p:=[_]) .t (Sub.four .t .t .t .t)
end
end Go.Proofs.YtnlpccoigflheaaGreatDoor
