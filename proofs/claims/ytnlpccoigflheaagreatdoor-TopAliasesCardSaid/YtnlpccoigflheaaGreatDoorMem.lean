/- Mem -/
import Derived.Test.YtnlpccoigflheaaGreatDoorDraw3
import Derived.Laws.CopyRow
import Derived.Laws.MakeOwn
import Derived.Laws.OwnMore
import Derived.Great.BuildSlice
import Derived.Laws.BytesString
import Derived.Test.YtnlpccoigflheaaGreatDoorFac
namespace Go.Proofs.YtnlpccoigflheaaGreatDoor
open Go.RowKit
open Tryz
section
variable {P:Program}{n:Nat}{c:Ctx}{Q:Exit->Act->World->Prop}{e:Env}{h:Heap}{ops:Array Oper}{rest:List Oper}
def RdAt (c:Ctx)(h:Heap)(A:Option Addr)(xs:List Value):Prop:=xs=[]\/∃ a,A=some a/\∀ w,St c h w->∀ j v,xs[j]?=some v->w.cell? (a.add j)=some v
def Src (W:World)(B:Nat)(src:List Row)(A:Option Addr)(xs:List Value):Prop:=xs=[]\/∃ a,A=some a /\
 ((a.block<B/\∀ j v,xs[j]?=some v->W.cell? (a.add j)=some v)\/(∃ b o,∃ t:TypeId×Nat×Nat,∃ l:List Value,a=⟨b,o,none⟩/\(⟨b,.cells l.toArray t.1 t.2⟩:Row)∈src/\∀ j v,xs[j]?=some v->l[o+j]?=some v))
theorem block_of_add (a:Addr)(j:Nat):(a.add j).block=a.block:=by unfold Addr.add;split<;>rfl
theorem add_of_add (a:Addr)(i j:Nat):(a.add i).add j=a.add (i+j):=by
 unfold Addr.add
 by_cases hi:i=0<;>by_cases hj:j=0<;>simp [hi,hj,Nat.add_assoc]
theorem RdAt.nil {A:Option Addr}:RdAt c h A []:=.inl rfl
theorem RdAt.row {b o:Nat}{t:TypeId}{l xs:List Value}{h':Heap}(tk:Take [cr b t l] h h')(hx:∀ j v,xs[j]?=some v->l[o+j]?=some v):RdAt c h (some ⟨b,o,none⟩) xs:=
 .inr ⟨_,rfl,fun w s j v hj=>by rw [Addr.add_mid];exact s.cell tk (hx j v hj)⟩
theorem RdAt.old {a:Addr}{xs:List Value}(hb:a.block<c.B)(hx:∀ j v,xs[j]?=some v->c.W.cell? (a.add j)=some v):RdAt c h (some a) xs:=
 .inr ⟨a,rfl,fun w s j v hj=>(s.oldCell (by rw [block_of_add];exact hb)).trans (hx j v hj)⟩
theorem Src.rd {src:List Row}{A:Option Addr}{xs:List Value}{h':Heap}(k:Src c.W c.B src A xs)(tk:Take src h h'):RdAt c h A xs:=by
 rcases k with rfl | ⟨a,rfl,⟨hb,hx⟩ | ⟨b,o,t,l,rfl,hm,hx⟩⟩
 . exact .nil
 . exact .old hb hx
 . refine .inr ⟨_,rfl,fun w s j v hj=>?_⟩
   have hin:(⟨b,.cells l.toArray t.1 t.2⟩:Row)∈h.flatten:=(List.Perm.mem_iff tk).1 (List.mem_append_left _ hm)
   rw [Addr.add_mid,cell_of_row w b (o+j) l.toArray t.1 t.2 (s.ext.rows.2 _ hin).2]
   simpa using hx j v hj
theorem RdAt.sub {A:Option Addr}{xs:List Value}(k:RdAt c h A xs)(m:Nat):RdAt c h A (xs.take m):=by
 rcases k with rfl | ⟨a,rfl,hx⟩
 . left;simp
 . refine .inr ⟨_,rfl,fun w s j v hj=>hx w s j v ?_⟩
   rw [List.getElem?_take] at hj
   split at hj
   . exact hj
   . cases hj
theorem Src.sub {W:World}{B:Nat}{src:List Row}{A:Option Addr}{xs:List Value}(k:Src W B src A xs)(m:Nat):Src W B src A (xs.take m):=by
 have hg:∀ (j:Nat) (v:Value),(xs.take m)[j]?=some v->xs[j]?=some v:=fun j v hj=>by
   rw [List.getElem?_take] at hj
   split at hj
   . exact hj
   . cases hj
 rcases k with rfl | ⟨a,rfl,⟨hb,hx⟩ | ⟨b,o,t,l,rfl,hm,hx⟩⟩
 . left;simp
 . exact .inr ⟨a,rfl,.inl ⟨hb,fun j v hj=>hx j v (hg j v hj)⟩⟩
 . exact .inr ⟨_,rfl,.inr ⟨b,o,t,l,rfl,hm,fun j v hj=>hx j v (hg j v hj)⟩⟩
theorem Src.row {W:World}{B:Nat}{b o:Nat}{t:TypeId}{l xs:List Value}(hx:∀ j v,xs[j]?=some v->l[o+j]?=some v):Src W B [cr b t l] (some ⟨b,o,none⟩) xs:=
 .inr ⟨_,rfl,.inr ⟨b,o,(t,0,0),l,rfl,by simp,hx⟩⟩
theorem Src.nil {W:World}{B:Nat}{src:List Row}{A:Option Addr}:Src W B src A []:=.inl rfl
theorem run_firstCells_rd {w:World}{A:Option Addr}{xs:List Value}{size m l cp:Nat}(k:RdAt c h A xs)(s:St c h w)(hl:xs.length=m*size)(hA:A=none->m*size=0) :
   (Builtin.firstCells size m (.slice A l cp)).run P w=.ok xs.toArray w:=by
 rcases k with rfl | ⟨a,rfl,hx⟩
 . cases A with
   | none=>simp [Builtin.firstCells]
   | some a=>exact run_firstCells_some w size m a l cp [] hl (fun j v hj=>by simp at hj)
 . exact run_firstCells_some w size m a l cp xs hl (hx w s)
theorem madeCells_rep (z:Array Value)(v:Value)(m:Nat)(hz:∀ x∈z,x=v)(h0:0<z.size):(madeCells z m).toList=List.replicate m v:=by
 apply List.ext_getElem?
 intro j
 by_cases hj:j<m
 . have hlt:j % z.size<z.size:=Nat.mod_lt _ h0
   have hv:z[j % z.size]! = v:=by
    rw [getElem!_pos z _ hlt]
    exact hz _ (Array.getElem_mem hlt)
   simp [madeCells,hj,hv]
 . simp [madeCells,hj]
theorem LW.make {d ty t el sz by_:Nat}{pos:String}{af:Array Edge}{x y:Operand}{kx ky:IntKind}{p q:Int}{z:Value}(l m:Nat)(ls:List Value)(hx:e.ev x=some (.int kx p))(hy:e.ev y=some (.int ky q))(hp:p=(l:Int))(hq:q=(m:Int))
  (ht:P.underlying t=some (.slice el)) (hi:(P.info? el).map (fun i=>(i.zero,i.size,i.bytes))=some (some z,sz,by_)) (hlm:l<=m) (hb:by_*m<=281474976710656) (hm:m<=9223372036854775807)
  (hls:(madeCells z.cells (m*sz)).toList=ls) (hd:Nat.blt d n=true) (k:∀ b,LW P n c ops Q rest ((d,.slice (sA b) l m)::e) ([cr b el ls]::h)) :
  LW P n c ops Q (⟨some d,.makeSlice t x y,ty,pos,af,none⟩::rest) e h:=
 LW.act hd fun a w hf s=>by
  obtain⟨i,hi',hz,rfl,rfl⟩:=info_parts hi
  subst hp hq
  have hr:=run_make (P:=P) w t el i z ht hi' hz kx ky l m (by omega) (by omega) (by
    have h:((i.bytes*m:Nat):Int)<=281474976710656:=by omega
    rwa [Int.natCast_mul] at h) (by omega)
  simp only [Int.toNat_natCast] at hr
  refine⟨.slice (some ⟨w.heap.size,0,none⟩) l m,_,w.alloc (.cells (madeCells z.cells (m*i.size)) el),?_,s.alloc _,?_⟩
  . simp only [execOp,hf.eval hx,hf.eval hy,Sem.run_bind,hr,Result.andThen_ok];rfl
  . have:madeCells z.cells (m*i.size)=ls.toArray:=by rw [<- hls]
    rw [this]
    exact k w.heap.size
theorem LW.buildSlice {d ty t el len:Nat}{pos:String}{af:Array Edge}{parts:List (Nat×Operand)}{vs:List Value}{z:Value}{by_:Nat}(hp:e.Evs (parts.map (·.2)) vs)(hix:parts.map (·.1)=List.range vs.length)(h1:∀ v∈vs,v.oneCell'=true)
  (ht:P.underlying t=some (.slice el)) (hi:(P.info? el).map (fun i=>(i.zero,i.size,i.bytes))=some (some z,1,by_)) (hlen:len=vs.length) (hpos:0<len) (hsm:len<=16777216) (hd:Nat.blt d n=true)
  (k:∀ b,LW P n c ops Q rest ((d,.slice (sA b) len len)::e) ([cr b el vs]::h)):LW P n c ops Q (⟨some d,.buildSlice t len parts.toArray,ty,pos,af,none⟩::rest) e h:=
 LW.act hd fun a w hf s=>by
  obtain⟨i,hi',hz,hs1,_⟩:=info_parts hi
  have hev:=hp.map hf
  have hparts:(parts.toArray.map fun (i,x)=>(i,a.eval x)).toList=(vs.zipIdx 0).map fun x=>(x.2,x.1):=by
   rw [<- hev] at hix |-
   rw [Array.toList_map]
   apply List.ext_getElem?
   intro j
   have hl:parts.length=(parts.map (·.2)).length:=by simp
   by_cases hj:j<parts.length
   . have h2:(parts.map (·.1))[j]?=some j:=by rw [hix];simp [hj]
     simp [hj] at h2 |-
     exact h2
   . simp [hj]
  have hfl:=Great.fill_flat (vs) ((Array.range (len*i.size)).map (z.cells[· % z.cells.size]!)) (fun v hv=>by have:=h1 v hv;cases v<;>first | rfl | cases this) (by simp [hs1,hlen])
  have hr:=run_buildSlice (P:=P) w t el len (parts.toArray.map fun (i,x)=>(i,a.eval x)) vs.toArray i z ht hi' hz (by rw [hs1];omega) (by rw [hs1];omega) (by rw [hparts,hs1] at *;exact hfl)
  refine⟨.slice (some ⟨w.heap.size,0,none⟩) len len,_,w.alloc (.cells vs.toArray el),?_,s.alloc _,k w.heap.size⟩
  simp only [execOp,Sem.run_bind,hr,Result.andThen_ok];rfl
theorem run_copy_rd {w:World}{b o dl dc sl sc:Nat}{dT sT ty el sz:Nat}{t:TypeId}{l xs:List Value}{A:Option Addr}{h':Heap}(hu:P.underlying dT=some (.slice el))(hsz:(P.info? el).map (·.size)=some sz)
  (s:St c h w) (tk:Take [cr b t l] h h') (hr:RdAt c h A xs) (hl:xs.length=min sl dl*sz) (hA:A=none->sl=0) (hfit:o+xs.length<=l.length) (h1:∀ v∈xs,v.oneCell'=true) :
  (Builtin.copy_ #[dT,sT] ty #[.slice (some ⟨b,o,none⟩) dl dc,.slice A sl sc]).run P w=.ok (goInt ((min sl dl:Nat):Int)) (w.setRow b (l.take o++xs++l.drop (o+xs.length)).toArray):=by
 obtain⟨i,hi,rfl⟩:=Option.map_eq_some_iff.1 hsz
 have hf:=run_firstCells_rd (P:=P) (l:=sl) (cp:=sc) hr s hl (fun h0=>by rw [hA h0];simp)
 have hst:=run_storeCells_at P b o t xs 0 l.toArray w (s.row tk) (by simpa using hfit) h1
 simp only [Nat.add_zero] at hst
 have hm:Nat.min sl dl=min sl dl:=rfl
 simp only [Builtin.copy_,List.getElem?_toArray,List.getElem?_cons_zero,List.getElem?_cons_succ,run_underlying hu,Builtin.lenOf,sizeOf,typeInfo,Sem.run_bind,Sem.run_pure,run_program,Result.andThen_ok,hi,hm,hf,hst]
theorem LW.copy {d ty dT sT el sz b o dl dc sl sc:Nat}{pos:String}{af:Array Edge}{x y:Operand}{t:TypeId}{l:List Value}{A:Option Addr}{h':Heap}(xs l':List Value)(hx:e.ev x=some (.slice (some ⟨b,o,none⟩) dl dc))(hy:e.ev y=some (.slice A sl sc))
  (hu:P.underlying dT=some (.slice el)) (hsz:(P.info? el).map (·.size)=some sz) (tk:Take [cr b t l] h h') (hr:RdAt c h A xs) (hl:xs.length=min sl dl*sz) (hA:A=none->sl=0) (hfit:o+xs.length<=l.length) (h1:∀ v∈xs,v.oneCell'=true)
  (hl':l.take o++xs++l.drop (o+xs.length)=l') (hd:Nat.blt d n=true) (k:LW P n c ops Q rest ((d,.int .i64 (min sl dl:Nat))::e) ([cr b t l']::h')) :
  LW P n c ops Q (⟨some d,.call { callee:=.builtin .copy,args:=#[x,y],argTypes:=#[dT,sT] },ty,pos,af,none⟩::rest) e h:=
 LW.act hd fun a w hf s=>⟨_,_,_,by
  have hrun:=run_copy_rd (P:=P) (o:=o) (dc:=dc) (sc:=sc) (sT:=sT) (ty:=ty) hu hsz s tk hr hl hA hfit h1
  simp only [execOp,resolve,invoke,builtin,List.map_toArray,List.map_cons,List.map_nil,hf.eval hx,hf.eval hy,Sem.run_bind,Sem.run_pure,Result.andThen_ok,hrun]
  rfl,s.setRow tk,by rw [hl'];exact k⟩
theorem run_clear {w:World}{b o dl dc:Nat}{dT ty el sz by_:Nat}{t:TypeId}{l:List Value}{z:Value}{h':Heap}(hu:P.underlying dT=some (.slice el))(hi:(P.info? el).map (fun i=>(i.zero,i.size,i.bytes))=some (some z,sz,by_))
  (s:St c h w) (tk:Take [cr b t l] h h') (hz1:z.cells.size=1) (h1:∀ v∈z.cells,v.oneCell'=true) (hfit:o+dl<=l.length) :
  (Builtin.clear_ #[dT] ty #[.slice (some ⟨b,o,none⟩) dl dc]).run P w=.ok (.tuple #[]) (w.setRow b (l.take o++(madeCells z.cells dl).toList++l.drop (o+dl)).toArray):=by
 obtain⟨i,hi',hz,_,_⟩:=info_parts hi
 have hzc:(Builtin.zeroCells z.cells dl).toList=(madeCells z.cells dl).toList:=by simp [Builtin.zeroCells,madeCells,hz1]
 have hst:=run_storeCells_at P b o t (madeCells z.cells dl).toList 0 l.toArray w (s.row tk) (by simpa [size_madeCells] using hfit) (fun v hv=>by
  simp only [madeCells,Array.toList_map,List.mem_map] at hv
  obtain⟨q,_,rfl⟩:=hv
  have hlt:q % z.cells.size<z.cells.size:=Nat.mod_lt _ (by omega)
  rw [getElem!_pos z.cells _ hlt]
  exact h1 _ (Array.getElem_mem hlt))
 simp only [Nat.add_zero,Array.length_toList,size_madeCells] at hst
 cases dl with
 | zero=>
  have hnil:(madeCells z.cells 0).toList=[]:=by simp [madeCells]
  rw [hnil] at hst
  have:w.setRow b (l.take o++[]++l.drop (o+0)).toArray=w:=by
   have hh:(l.take o++[]++l.drop (o+0)).toArray=l.toArray:=by simp
   rw [hh];exact setRow_self w b _ t (0,0) (s.row tk)
  rw [hnil,this]
  simp [Builtin.clear_,run_underlying hu]
 | succ m=>
  simp [Builtin.clear_,run_underlying hu,zeroValue,typeInfo,hi',hz,hzc,hst]
theorem LW.clear {ty dT el sz by_ b o dl dc:Nat}{pos:String}{af:Array Edge}{x:Operand}{t:TypeId}{l:List Value}{z:Value}{h':Heap}(l':List Value)(hx:e.ev x=some (.slice (some ⟨b,o,none⟩) dl dc))
  (hu:P.underlying dT=some (.slice el)) (hi:(P.info? el).map (fun i=>(i.zero,i.size,i.bytes))=some (some z,sz,by_)) (tk:Take [cr b t l] h h') (hz1:z.cells.size=1) (h1:∀ v∈z.cells,v.oneCell'=true) (hfit:o+dl<=l.length)
  (hl:l.take o++(madeCells z.cells dl).toList++l.drop (o+dl)=l') (k:LW P n c ops Q rest e ([cr b t l']::h')) :
  LW P n c ops Q (⟨none,.call { callee:=.builtin .clear,args:=#[x],argTypes:=#[dT] },ty,pos,af,none⟩::rest) e h:=
 LW.skipAct (x:=.value (.tuple #[])) (.inr ⟨_,rfl⟩) fun a w hf s=>⟨_,_,by
  have hrun:=run_clear (P:=P) (o:=o) (dc:=dc) (ty:=ty) hu hi s tk hz1 h1 hfit
  simp only [execOp,resolve,invoke,builtin,List.map_toArray,List.map_cons,List.map_nil,hf.eval hx,Sem.run_bind,Sem.run_pure,Result.andThen_ok,hrun]
  rfl,s.setRow tk,by rw [hl];exact k⟩
theorem LW.storeAgg {ty t b o:Nat}{pos:String}{af:Array Edge}{x y:Operand}{u:TypeId}{l cs:List Value}{h':Heap}(l':List Value)(hx:e.ev x=some (.pointer (some ⟨b,o,none⟩)))(hy:e.ev y=some (.agg cs.toArray))(tk:Take [cr b u l] h h')
  (hz:(P.info? t).map (·.size)=some cs.length) (hfit:o+cs.length<=l.length) (h1:∀ v∈cs,v.oneCell'=true) (hl':l.take o++cs++l.drop (o+cs.length)=l') (k:LW P n c ops Q rest e ([cr b u l']::h')) :
  LW P n c ops Q (⟨none,.store t x y,ty,pos,af,none⟩::rest) e h:=
 LW.skipAct (.inl rfl) fun a w hf s=>⟨_,_,by
  obtain⟨i,hi,hs⟩:=Option.map_eq_some_iff.1 hz
  have hst:=run_storeCells_at P b o u cs 0 l.toArray w (s.row tk) (by simpa using hfit) h1
  simp only [Nat.add_zero] at hst
  have hrun:(Instr.storeAt t (.pointer (some ⟨b,o,none⟩)) (.agg cs.toArray)).run P w=.ok () (w.setRow b (l.take o++cs++l.drop (o+cs.length)).toArray):=by
   simp only [Instr.storeAt,Instr.sureAddr,storeVar,sizeOf,typeInfo,Value.cells,Sem.run_bind,Sem.run_pure,run_program,hi,hs,Result.andThen_ok,List.size_toArray,ne_eq,not_true_eq_false,if_false]
   exact hst
  simp only [execOp,hf.eval hx,hf.eval hy,Sem.run_bind,hrun,Result.andThen_ok]
  rfl,s.setRow tk,by rw [hl'];exact k⟩
def cutA (A:Option Addr)(m lo sz:Nat):Option Addr:=if m=lo then A else A.map (·.add (lo*sz))
theorem run_slice_cut {w:World}{t el sz:Nat}{A:Option Addr}{l cp lo hi mx:Nat}{L H M:Option Value}(ht:P.underlying t=some (.slice el))(hsz:(P.info? el).map (·.size)=some sz)
   (hL:(L=none/\lo=0)\/∃ k,L=some (.int k (lo:Int))) (hH:(H=none/\M=none/\hi=l)\/∃ k,H=some (.int k (hi:Int))) (hM:(M=none/\mx=cp)\/∃ k,M=some (.int k (mx:Int)))
   (h1:lo<=hi) (h2:hi<=mx) (h3:mx<=cp) (hlc:l<=cp):(Instr.slice t (.slice A l cp) L H M).run P w=.ok (.slice (cutA A mx lo sz) (hi-lo) (mx-lo)) w:=by
 obtain⟨i,hi',rfl⟩:=Option.map_eq_some_iff.1 hsz
 have b:∀ (k:IntKind) (p y:Nat) (code:BoundsCode),p<=y->(Instr.sliceBound (.int k (p:Int)) y code).run P w=.ok p w:=fun k p y code hp=>by
   simp [Instr.sliceBound,asIntOf,hp]
 rcases hM with ⟨rfl,rfl⟩ | ⟨kM,rfl⟩
 . rcases hH with ⟨rfl,_,rfl⟩ | ⟨kH,rfl⟩
   . rcases hL with ⟨rfl,rfl⟩ | ⟨kL,rfl⟩<;>simp [Instr.slice,Instr.sliceBounds,run_underlying ht,sizeOf,typeInfo,hi',b,h1,cutA]
   . rcases hL with ⟨rfl,rfl⟩ | ⟨kL,rfl⟩<;>simp [Instr.slice,Instr.sliceBounds,run_underlying ht,sizeOf,typeInfo,hi',b,h1,h2,cutA]
 . rcases hH with ⟨rfl,hc,rfl⟩ | ⟨kH,rfl⟩
   . cases hc
   . rcases hL with ⟨rfl,rfl⟩ | ⟨kL,rfl⟩<;>simp [Instr.slice,Instr.sliceBounds,run_underlying ht,sizeOf,typeInfo,hi',b,h1,h2,h3,cutA]
theorem LW.cut {d ty t el sz:Nat}{pos:String}{af:Array Edge}{x:Operand}{L H M:Option Operand}{A:Option Addr}{l cp:Nat}(lo hi mx:Nat)(L' H' M':Option Value)(hx:e.ev x=some (.slice A l cp))(ht:P.underlying t=some (.slice el))(hsz:(P.info? el).map (·.size)=some sz)
  (hL0:∀ a,Fr n e a->L.map a.eval=L') (hH0:∀ a,Fr n e a->H.map a.eval=H') (hM0:∀ a,Fr n e a->M.map a.eval=M')
  (hL:(L'=none/\lo=0)\/∃ k,L'=some (.int k (lo:Int))) (hH:(H'=none/\M'=none/\hi=l)\/∃ k,H'=some (.int k (hi:Int))) (hM:(M'=none/\mx=cp)\/∃ k,M'=some (.int k (mx:Int)))
  (h1:lo<=hi) (h2:hi<=mx) (h3:mx<=cp) (hlc:l<=cp) (hd:Nat.blt d n=true) (k:LW P n c ops Q rest ((d,.slice (cutA A mx lo sz) (hi-lo) (mx-lo))::e) h) :
  LW P n c ops Q (⟨some d,.slice t x L H M,ty,pos,af,none⟩::rest) e h:=
 LW.val _ hd (fun a w hf _=>by
  have hr:=run_slice_cut (P:=P) (w:=w) (A:=A) ht hsz hL hH hM h1 h2 h3 hlc
  have hat:(Instr.sliceAt t (.slice A l cp) L' H' M').run P w=(Instr.slice t (.slice A l cp) L' H' M').run P w:=by
   simp [Instr.sliceAt,run_underlying ht]
  simp only [execOp,hf.eval hx,hL0 a hf,hH0 a hf,hM0 a hf,Sem.run_bind,hat,hr,Result.andThen_ok];rfl) k
theorem LW.cutArr {d ty t el sz m:Nat}{pos:String}{af:Array Edge}{x:Operand}{b o:Nat}(hx:e.ev x=some (.pointer (some ⟨b,o,none⟩)))(ht:P.underlying t=some (.array m el))(hsz:(P.info? el).map (·.size)=some sz)
  (hd:Nat.blt d n=true) (k:LW P n c ops Q rest ((d,.slice (some ⟨b,o,none⟩) m m)::e) h) :
  LW P n c ops Q (⟨some d,.slice t x none none none,ty,pos,af,none⟩::rest) e h:=
 LW.val _ hd (fun a w hf _=>by
  obtain⟨i,hi',rfl⟩:=Option.map_eq_some_iff.1 hsz
  have h0:(⟨b,o,none⟩:Addr).add 0=⟨b,o,none⟩:=Addr.add_zero' _
  simp [execOp,hf.eval hx,Instr.sliceAt,Instr.sliceBounds,run_underlying ht,Instr.sureAddr,sizeOf,typeInfo,hi',h0]) k
end
section
variable {P:Program}{n:Nat}{c:Ctx}{Q:Exit->Act->World->Prop}{e:Env}{h h':Heap}{ops:Array Oper}{rest:List Oper}{d ty t:Nat}{pos:String}{af:Array Edge}{xt yt:Nat}{x y:Operand}{ki:IntKind}{p q:Int}{b o:Nat}{u:TypeId}{l:List Value}{v:Value}
theorem LW.bs {el len:Nat}{parts:List (Nat×Operand)}{z:Value}{by_:Nat}(vs:List Value)(ht:P.underlying t=some (.slice el))(hi:(P.info? el).map (fun i=>(i.zero,i.size,i.bytes))=some (some z,1,by_))(k:∀ b,LW P n c ops Q rest ((d,.slice (some ⟨b,0,none⟩) len len)::e) ([cr b el vs]::h))(hp:e.Evs (parts.map (·.2)) vs:=by repeat (first | exact trivial | refine⟨rfl,?_⟩))(hix:parts.map (·.1)=List.range vs.length:=by rfl)(h1:∀ v∈vs,v.oneCell'=true:=by repeat (first | exact List.forall_mem_nil _ | refine List.forall_mem_cons.2 ⟨rfl,?_⟩))(hlen:len=vs.length:=by rfl)(hpos:0<len:=by decide)(hsm:len<=16777216:=by decide)(hd:Nat.blt d n=true:=by rfl):LW P n c ops Q (⟨some d,.buildSlice t len parts.toArray,ty,pos,af,none⟩::rest) e h:=LW.buildSlice hp hix h1 ht hi hlen hpos hsm hd k
theorem LW.sA {cs:List Value}{m:Nat}(l':List Value)(hz:(P.info? t).map (·.size)=some m)(h1:∀ v∈cs,v.oneCell'=true)(k:LW P n c ops Q rest e ([cr b u l']::h'))(hx:e.ev x=some (.pointer (some ⟨b,o,none⟩)):=by rfl)(hy:e.ev y=some (.agg cs.toArray):=by rfl)(tk:Take [cr b u l] h h':=by exact .t)(hm:cs.length=m:=by rfl)(hfit:Nat.ble (o+cs.length) l.length=true:=by rfl)(hl':l.take o++cs++l.drop (o+cs.length)=l':=by rfl):LW P n c ops Q (⟨none,.store t x y,ty,pos,af,none⟩::rest) e h:=LW.storeAgg l' hx hy tk (by rw [hz,hm]) (Nat.le_of_ble_eq_true hfit) h1 hl' k
end
end Go.Proofs.YtnlpccoigflheaaGreatDoor
