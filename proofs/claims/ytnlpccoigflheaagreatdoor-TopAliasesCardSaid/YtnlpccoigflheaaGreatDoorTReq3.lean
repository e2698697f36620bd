/- TReq1 TReq2 TReq3 -/
import Derived.Test.YtnlpccoigflheaaGreatDoorTCorC
import Derived.Test.YtnlpccoigflheaaGreatDoorFac
namespace Go.Proofs.YtnlpccoigflheaaGreatDoor
open Go.RowKit
open Go.Proofs.Tryz
def TuO:Tbl:=⟨[(32,0,0),(32,1,1),(32,2,2),(32,3,3),(32,4,4),(32,5,5),(32,6,6),(32,7,7),(32,8,8),(32,9,9),(32,10,10)],[],[85]⟩
theorem uO:TuO.Ok Tryz.prog:=.of (⟨⟨_,Tryz.underlying85⟩,trivial⟩)
def opZ (k:Int):OpP:=⟨k,[],[],0,0,0,0,[],[],0,0⟩
def op1 (col:Nm)(dim m ix:Int):OpP:={ opZ 1 with col:=col,dim:=dim,metric:=m,index:=ix }
def op2 (col:Nm):OpP:={ opZ 2 with col:=col }
def op3 (col:Nm)(id:Int)(vec:List Int)(pay:List UInt8)(draw:Int):OpP:={ opZ 3 with col:=col,id:=id,vec:=vec,pay:=pay,draw:=draw }
def op5 (name col:Nm):OpP:={ opZ 5 with name:=name,col:=col }
def op12 (col:Nm)(id:Int):OpP:={ opZ 12 with col:=col,id:=id }
def op13 (col:Nm)(vec:List Int)(k:Int):OpP:={ opZ 13 with col:=col,vec:=vec,k:=k }
abbrev nilV:Value:=.slice none 0 0
section
variable {P:Program}{n:Nat}{S:World->Prop}{e:Env}{d ty:Nat}{pos:String}{af:Array Edge}
theorem Yl.lenString {t:Nat}{x:Operand}{s:ByteArray}(hx:e.ev x=some (.string s))(ht:P.underlying t=some .string) :
  Yl P n S e ⟨some d,.call { callee:=.builtin .len,args:=#[x],argTypes:=#[t] },ty,pos,af,none⟩ (iN s.size):=fun a w hf _=>by
 simp [execOp,resolve,invoke,builtin,hf.eval hx,Builtin.len_,run_underlying ht,goInt]
end
section
variable (W:World)(B:Nat)
theorem req_is (k:Int)(h1:1<=k)(h2:k<=15):Spec prog W B 29 [.int .i64 k] [] (fun r post=>r=.bool true/\post=[]):=by
 refine Spec.eG [] func29 ntmps29 fun w0=>?_
 refine CW.go uO 8 rfl (LW.geqT ?_)
 refine LW.go uO 4 rfl (LW.leqT ?_)
 refine LW.go uO 5 rfl ?_
 refine NW.r1 ⟨_,⟨rfl,rfl⟩,?_⟩
 exact Sub.nil _
theorem req_bare1 (col:Nm)(dim m ix:Int):Spec prog W B 31 [opV nilV (op1 col dim m ix)] [] (fun r post=>r=opV nilV (op1 col dim m ix)/\post=[]):=by
 refine Spec.eG [] func31 ntmps31 fun w0=>?_
 refine CW.go uO 2 rfl (LW.bx ?_)
 intro bb1
 refine LW.alloc zero32 rfl ?_
 intro ba2
 refine LW.go uO 3 rfl ?_
 rw [show (opV nilV (op1 col dim m ix)).cells.toList=opC nilV (op1 col dim m ix) from rfl]
 refine CW.go uO 2 rfl (LW.load (v:=.int .i64 1) rfl .t (rfl) one3 rfl ?_)
 refine LW.bd [_] ((opC nilV (opZ 1)).toArray) ?_
 refine LW.alloc zero32 rfl ?_
 intro ba3
 refine LW.sA (opC nilV (opZ 1)) szt32 (opC_one rfl _) ?_
 refine LW.go uO 6 rfl (LW.load (v:=.int .i64 1) rfl .t (rfl) one3 rfl ?_)
 refine LW.go uO 23 rfl (LW.eqlT ?_)
 refine LW.go uO 9 rfl (CW.drawH [cr bb1 32 (opC nilV (op1 col dim m ix))] mixed ?_)
 refine AW.ts [0,1,2,3,4] 3 (TW.fa fa32_4 ?_)
 refine TW.ld one3 ?_
 refine TW.fa fa32_5 ?_
 refine TW.ld one3 ?_
 refine TW.fa fa32_4 ?_
 refine TW.nil (AW.a 5 ?_)
 refine LW.sr sz3 ?_
 refine LW.nil (AW.b (AW.ts [6] 1 (TW.fa fa32_5 ?_)))
 refine TW.nil (AW.a 7 ?_)
 refine LW.sr sz3 ?_
 refine LW.nil (AW.b (AW.d ?_))
 refine NW.go uO 4 rfl (LW.ld one3 ?_)
 refine LW.go uO 1 rfl (LW.sr sz3 ?_)
 refine LW.go uO 6 rfl (LW.ld one9 ?_)
 refine LW.go uO 1 rfl (LW.sr sz9 ?_)
 refine LW.go uO 17 rfl (LW.loadAgg (opC nilV (op1 col dim m ix)) rfl .t (fun j v hj=>by show (opC nilV (op1 col dim m ix))[0+j]?=_;rw [Nat.zero_add];exact hj) underlying32 rfl (sze szt32) rfl ?_)
 refine LW.sA (opC nilV (op1 col dim m ix)) szt32 (opC_one rfl _) ?_
 refine LW.go uO 3 rfl ?_
 refine NW.res1 rfl (.cell (opC nilV (op1 col dim m ix)) rfl .t zd underlying32 rfl szt32) ⟨_,⟨rfl,rfl⟩,?_⟩
 exact Sub.nil _
theorem req_bare2 (col:Nm):Spec prog W B 31 [opV nilV (op2 col)] [] (fun r post=>r=opV nilV (op2 col)/\post=[]):=by
 refine Spec.eG [] func31 ntmps31 fun w0=>?_
 refine CW.go uO 2 rfl (LW.bx ?_)
 intro bb1
 refine LW.alloc zero32 rfl ?_
 intro ba2
 refine LW.go uO 3 rfl ?_
 rw [show (opV nilV (op2 col)).cells.toList=opC nilV (op2 col) from rfl]
 refine CW.go uO 2 rfl (LW.load (v:=.int .i64 2) rfl .t (rfl) one3 rfl ?_)
 refine LW.bd [_] ((opC nilV (opZ 2)).toArray) ?_
 refine LW.alloc zero32 rfl ?_
 intro ba3
 refine LW.sA (opC nilV (opZ 2)) szt32 (opC_one rfl _) ?_
 refine LW.go uO 6 rfl (LW.load (v:=.int .i64 2) rfl .t (rfl) one3 rfl ?_)
 refine LW.go uO 23 rfl (LW.eqlF ?_)
 refine LW.go uO 9 rfl (LW.eqlF ?_)
 refine LW.go uO 10 rfl (LW.eqlT ?_)
 refine LW.go uO 19 rfl (LW.ld one9 ?_)
 refine LW.go uO 1 rfl (LW.sr sz9 ?_)
 refine LW.go uO 17 rfl (LW.loadAgg (opC nilV (op2 col)) rfl .t (fun j v hj=>by show (opC nilV (op2 col))[0+j]?=_;rw [Nat.zero_add];exact hj) underlying32 rfl (sze szt32) rfl ?_)
 refine LW.sA (opC nilV (op2 col)) szt32 (opC_one rfl _) ?_
 refine LW.go uO 3 rfl ?_
 refine NW.res1 rfl (.cell (opC nilV (op2 col)) rfl .t zd underlying32 rfl szt32) ⟨_,⟨rfl,rfl⟩,?_⟩
 exact Sub.nil _
theorem req_bare3 (col:Nm)(id:Int)(vec:List Int)(pay:List UInt8)(draw:Int)(A:Option Addr)(cp:Nat):Spec prog W B 31 [opV (.slice A vec.length cp) (op3 col id vec pay draw)] [] (fun r post=>r=opV (.slice A vec.length cp) (op3 col id vec pay draw)/\post=[]):=by
 refine Spec.eG [] func31 ntmps31 fun w0=>?_
 refine CW.go uO 2 rfl (LW.bx ?_)
 intro bb1
 refine LW.alloc zero32 rfl ?_
 intro ba2
 refine LW.go uO 3 rfl ?_
 rw [show (opV (.slice A vec.length cp) (op3 col id vec pay draw)).cells.toList=opC (.slice A vec.length cp) (op3 col id vec pay draw) from rfl]
 refine CW.go uO 2 rfl (LW.load (v:=.int .i64 3) rfl .t (rfl) one3 rfl ?_)
 refine LW.bd [_] ((opC nilV (opZ 3)).toArray) ?_
 refine LW.alloc zero32 rfl ?_
 intro ba3
 refine LW.sA (opC nilV (opZ 3)) szt32 (opC_one rfl _) ?_
 refine LW.go uO 6 rfl (LW.load (v:=.int .i64 3) rfl .t (rfl) one3 rfl ?_)
 refine LW.go uO 23 rfl (LW.eqlF ?_)
 refine LW.go uO 9 rfl (LW.eqlF ?_)
 refine LW.go uO 10 rfl (LW.eqlF ?_)
 refine LW.go uO 5 rfl (LW.eqlF ?_)
 refine LW.go uO 9 rfl (LW.eqlT ?_)
 refine LW.go uO 15 rfl (CW.drawH [cr bb1 32 (opC (.slice A vec.length cp) (op3 col id vec pay draw))] mixed ?_)
 refine AW.ts [0,1,2,3,4,5,6] 5 (TW.fa fa32_7 ?_)
 refine TW.ld one25 ?_
 refine TW.fa fa32_8 ?_
 refine TW.ld one9 ?_
 refine TW.fa fa32_10 ?_
 refine TW.ld one30 ?_
 refine TW.fa fa32_7 ?_
 refine TW.nil (AW.a 7 ?_)
 refine LW.sr sz25 ?_
 refine LW.nil (AW.b (AW.ts [8] 3 (TW.fa fa32_8 ?_)))
 refine TW.nil (AW.a 9 ?_)
 refine LW.sr sz9 ?_
 refine LW.nil (AW.b (AW.ts [10] 1 (TW.fa fa32_10 ?_)))
 refine TW.nil (AW.a 11 ?_)
 refine LW.sr sz30 ?_
 refine LW.nil (AW.b (AW.d ?_))
 refine NW.go uO 3 rfl (CW.drawH [cr bb1 32 (opC (.slice A vec.length cp) (op3 col id vec pay draw))] mixed ?_)
 refine AW.ts [0,1,2,3,4] 3 (TW.fa fa32_1 ?_)
 refine TW.ld one9 ?_
 refine TW.fa fa32_3 ?_
 refine TW.ld one3 ?_
 refine TW.fa fa32_1 ?_
 refine TW.nil (AW.a 5 ?_)
 refine LW.sr sz9 ?_
 refine LW.nil (AW.b (AW.ts [6] 1 (TW.fa fa32_3 ?_)))
 refine TW.nil (AW.a 7 ?_)
 refine LW.sr sz3 ?_
 refine LW.nil (AW.b (AW.d ?_))
 refine NW.go uO 12 rfl (LW.loadAgg (opC (.slice A vec.length cp) (op3 col id vec pay draw)) rfl .t (fun j v hj=>by show (opC (.slice A vec.length cp) (op3 col id vec pay draw))[0+j]?=_;rw [Nat.zero_add];exact hj) underlying32 rfl (sze szt32) rfl ?_)
 refine LW.sA (opC (.slice A vec.length cp) (op3 col id vec pay draw)) szt32 (opC_one rfl _) ?_
 refine LW.go uO 3 rfl ?_
 refine NW.res1 rfl (.cell (opC (.slice A vec.length cp) (op3 col id vec pay draw)) rfl .t zd underlying32 rfl szt32) ⟨_,⟨rfl,rfl⟩,?_⟩
 exact Sub.nil _
theorem req_bare12 (col:Nm)(id:Int):Spec prog W B 31 [opV nilV (op12 col id)] [] (fun r post=>r=opV nilV (op12 col id)/\post=[]):=by
 refine Spec.eG [] func31 ntmps31 fun w0=>?_
 refine CW.go uO 2 rfl (LW.bx ?_)
 intro bb1
 refine LW.alloc zero32 rfl ?_
 intro ba2
 refine LW.go uO 3 rfl ?_
 rw [show (opV nilV (op12 col id)).cells.toList=opC nilV (op12 col id) from rfl]
 refine CW.go uO 2 rfl (LW.load (v:=.int .i64 12) rfl .t (rfl) one3 rfl ?_)
 refine LW.bd [_] ((opC nilV (opZ 12)).toArray) ?_
 refine LW.alloc zero32 rfl ?_
 intro ba3
 refine LW.sA (opC nilV (opZ 12)) szt32 (opC_one rfl _) ?_
 refine LW.go uO 6 rfl (LW.load (v:=.int .i64 12) rfl .t (rfl) one3 rfl ?_)
 refine LW.go uO 23 rfl (LW.eqlF ?_)
 refine LW.go uO 9 rfl (LW.eqlF ?_)
 refine LW.go uO 10 rfl (LW.eqlF ?_)
 refine LW.go uO 5 rfl (LW.eqlF ?_)
 refine LW.go uO 9 rfl (LW.eqlF ?_)
 refine LW.go uO 10 rfl (LW.eqlF ?_)
 refine LW.go uO 5 rfl (LW.eqlT ?_)
 refine LW.go uO 18 rfl (CW.drawH [cr bb1 32 (opC nilV (op12 col id))] mixed ?_)
 refine AW.ts [0,1,2,3,4] 3 (TW.fa fa32_1 ?_)
 refine TW.ld one9 ?_
 refine TW.fa fa32_3 ?_
 refine TW.ld one3 ?_
 refine TW.fa fa32_1 ?_
 refine TW.nil (AW.a 5 ?_)
 refine LW.sr sz9 ?_
 refine LW.nil (AW.b (AW.ts [6] 1 (TW.fa fa32_3 ?_)))
 refine TW.nil (AW.a 7 ?_)
 refine LW.sr sz3 ?_
 refine LW.nil (AW.b (AW.d ?_))
 refine NW.go uO 12 rfl (LW.loadAgg (opC nilV (op12 col id)) rfl .t (fun j v hj=>by show (opC nilV (op12 col id))[0+j]?=_;rw [Nat.zero_add];exact hj) underlying32 rfl (sze szt32) rfl ?_)
 refine LW.sA (opC nilV (op12 col id)) szt32 (opC_one rfl _) ?_
 refine LW.go uO 3 rfl ?_
 refine NW.res1 rfl (.cell (opC nilV (op12 col id)) rfl .t zd underlying32 rfl szt32) ⟨_,⟨rfl,rfl⟩,?_⟩
 exact Sub.nil _
theorem req_bare5 (name col:Nm):Spec prog W B 31 [opV nilV (op5 name col)] [] (fun r post=>r=opV nilV (op5 name col)/\post=[]):=by
 refine Spec.eG [] func31 ntmps31 fun w0=>?_
 refine CW.go uO 2 rfl (LW.bx ?_)
 intro bb1
 refine LW.alloc zero32 rfl ?_
 intro ba2
 refine LW.go uO 3 rfl ?_
 rw [show (opV nilV (op5 name col)).cells.toList=opC nilV (op5 name col) from rfl]
 refine CW.go uO 2 rfl (LW.load (v:=.int .i64 5) rfl .t (rfl) one3 rfl ?_)
 refine LW.bd [_] ((opC nilV (opZ 5)).toArray) ?_
 refine LW.alloc zero32 rfl ?_
 intro ba3
 refine LW.sA (opC nilV (opZ 5)) szt32 (opC_one rfl _) ?_
 refine LW.go uO 6 rfl (LW.load (v:=.int .i64 5) rfl .t (rfl) one3 rfl ?_)
 refine LW.go uO 23 rfl (LW.eqlF ?_)
 refine LW.go uO 9 rfl (LW.eqlF ?_)
 refine LW.go uO 10 rfl (LW.eqlF ?_)
 refine LW.go uO 5 rfl (LW.eqlF ?_)
 refine LW.go uO 9 rfl (LW.eqlF ?_)
 refine LW.go uO 10 rfl (LW.eqlF ?_)
 refine LW.go uO 5 rfl (LW.eqlF ?_)
 refine LW.go uO 9 rfl (LW.eqlT ?_)
 refine LW.go uO 20 rfl (CW.drawH [cr bb1 32 (opC nilV (op5 name col))] mixed ?_)
 refine AW.ts [0,1,2,3,4] 3 (TW.fa fa32_2 ?_)
 refine TW.ld one9 ?_
 refine TW.fa fa32_1 ?_
 refine TW.ld one9 ?_
 refine TW.fa fa32_2 ?_
 refine TW.nil (AW.a 5 ?_)
 refine LW.sr sz9 ?_
 refine LW.nil (AW.b (AW.ts [6] 1 (TW.fa fa32_1 ?_)))
 refine TW.nil (AW.a 7 ?_)
 refine LW.sr sz9 ?_
 refine LW.nil (AW.b (AW.d ?_))
 refine NW.go uO 10 rfl (LW.loadAgg (opC nilV (op5 name col)) rfl .t (fun j v hj=>by show (opC nilV (op5 name col))[0+j]?=_;rw [Nat.zero_add];exact hj) underlying32 rfl (sze szt32) rfl ?_)
 refine LW.sA (opC nilV (op5 name col)) szt32 (opC_one rfl _) ?_
 refine LW.go uO 3 rfl ?_
 refine NW.res1 rfl (.cell (opC nilV (op5 name col)) rfl .t zd underlying32 rfl szt32) ⟨_,⟨rfl,rfl⟩,?_⟩
 exact Sub.nil _
theorem req_bare13 (col:Nm)(vec:List Int)(k:Int)(A:Option Addr)(cp:Nat):Spec prog W B 31 [opV (.slice A vec.length cp) (op13 col vec k)] [] (fun r post=>r=opV (.slice A vec.length cp) (op13 col vec k)/\post=[]):=by
 refine Spec.eG [] func31 ntmps31 fun w0=>?_
 refine CW.go uO 2 rfl (LW.bx ?_)
 intro bb1
 refine LW.alloc zero32 rfl ?_
 intro ba2
 refine LW.go uO 3 rfl ?_
 rw [show (opV (.slice A vec.length cp) (op13 col vec k)).cells.toList=opC (.slice A vec.length cp) (op13 col vec k) from rfl]
 refine CW.go uO 2 rfl (LW.load (v:=.int .i64 13) rfl .t (rfl) one3 rfl ?_)
 refine LW.bd [_] ((opC nilV (opZ 13)).toArray) ?_
 refine LW.alloc zero32 rfl ?_
 intro ba3
 refine LW.sA (opC nilV (opZ 13)) szt32 (opC_one rfl _) ?_
 refine LW.go uO 6 rfl (LW.load (v:=.int .i64 13) rfl .t (rfl) one3 rfl ?_)
 refine LW.go uO 23 rfl (LW.eqlF ?_)
 refine LW.go uO 9 rfl (LW.eqlF ?_)
 refine LW.go uO 10 rfl (LW.eqlF ?_)
 refine LW.go uO 5 rfl (LW.eqlF ?_)
 refine LW.go uO 9 rfl (LW.eqlF ?_)
 refine LW.go uO 10 rfl (LW.eqlF ?_)
 refine LW.go uO 5 rfl (LW.eqlF ?_)
 refine LW.go uO 9 rfl (LW.eqlF ?_)
 refine LW.go uO 9 rfl (LW.eqlF ?_)
 refine LW.go uO 8 rfl (LW.eqlT ?_)
 refine LW.go uO 23 rfl (CW.drawH [cr bb1 32 (opC (.slice A vec.length cp) (op13 col vec k))] mixed ?_)
 refine AW.ts [0,1,2,3,4,5,6] 5 (TW.fa fa32_1 ?_)
 refine TW.ld one9 ?_
 refine TW.fa fa32_7 ?_
 refine TW.ld one25 ?_
 refine TW.fa fa32_9 ?_
 refine TW.ld one3 ?_
 refine TW.fa fa32_1 ?_
 refine TW.nil (AW.a 7 ?_)
 refine LW.sr sz9 ?_
 refine LW.nil (AW.b (AW.ts [8] 3 (TW.fa fa32_7 ?_)))
 refine TW.nil (AW.a 9 ?_)
 refine LW.sr sz25 ?_
 refine LW.nil (AW.b (AW.ts [10] 1 (TW.fa fa32_9 ?_)))
 refine TW.nil (AW.a 11 ?_)
 refine LW.sr sz3 ?_
 refine LW.nil (AW.b (AW.d ?_))
 refine NW.go uO 6 rfl (LW.loadAgg (opC (.slice A vec.length cp) (op13 col vec k)) rfl .t (fun j v hj=>by show (opC (.slice A vec.length cp) (op13 col vec k))[0+j]?=_;rw [Nat.zero_add];exact hj) underlying32 rfl (sze szt32) rfl ?_)
 refine LW.sA (opC (.slice A vec.length cp) (op13 col vec k)) szt32 (opC_one rfl _) ?_
 refine LW.go uO 3 rfl ?_
 refine NW.res1 rfl (.cell (opC (.slice A vec.length cp) (op13 col vec k)) rfl .t zd underlying32 rfl szt32) ⟨_,⟨rfl,rfl⟩,?_⟩
 exact Sub.nil _
end
open Go.RowKit
structure OpOk (o:OpP):Prop where
 k1:1<=o.kind/\o.kind<=15
 col:o.col.length<=12
 name:o.name.length<=12
 vec:o.vec.length<=8
 pay:o.pay.length<=40
 num:∀ x∈[o.id,o.dim,o.metric,o.index,o.k],0<=x/\x<=1000000
section
variable (W:World)(B:Nat)
theorem req_same (rows:List Row)(vv:Value)(o:OpP)(hv:VecAt W B rows vv o.vec)(hm:o.vec.length<=1000):Spec prog W B 30 [opV vv o,opV vv o] rows (fun r post=>r=.bool true/\post=rows):=by
 have hbx:=opV_cells hv o
 refine Spec.eG [rows] func30 ntmps30 fun w0=>?_
 refine CW.go uO 2 rfl (LW.bx ?_)
 intro bb2
 refine LW.bx ?_
 intro bb3
 refine LW.go uO 4 rfl ?_
 rw [hbx]
 refine CW.go uO 2 rfl (LW.load (v:=.int .i64 o.kind) rfl .t (rfl) one3 rfl ?_)
 refine LW.go uO 1 rfl (LW.load (v:=.int .i64 o.kind) rfl .t (rfl) one3 rfl ?_)
 refine LW.eqlT ?_
 refine LW.go uO 4 rfl (LW.ld one9 ?_)
 refine LW.go uO 3 rfl (LW.ld one9 ?_)
 refine LW.go uO 1 rfl (LW.strEql (true) rfl rfl underlying9 (decide_eq_true rfl) rfl ?_)
 refine LW.go uO 5 rfl (LW.ld one9 ?_)
 refine LW.go uO 3 rfl (LW.ld one9 ?_)
 refine LW.go uO 1 rfl (LW.strEql (true) rfl rfl underlying9 (decide_eq_true rfl) rfl ?_)
 refine LW.go uO 5 rfl (LW.ld one3 ?_)
 refine LW.go uO 3 rfl (LW.ld one3 ?_)
 refine LW.go uO 1 rfl (LW.eqlT ?_)
 refine LW.go uO 5 rfl (LW.ld one3 ?_)
 refine LW.go uO 3 rfl (LW.ld one3 ?_)
 refine LW.go uO 1 rfl (LW.eqlT ?_)
 refine LW.go uO 5 rfl (LW.ld one3 ?_)
 refine LW.go uO 3 rfl (LW.ld one3 ?_)
 refine LW.go uO 1 rfl (LW.eqlT ?_)
 refine LW.go uO 5 rfl (LW.ld one3 ?_)
 refine LW.go uO 3 rfl (LW.ld one3 ?_)
 refine LW.go uO 1 rfl (LW.eqlT ?_)
 refine LW.go uO 5 rfl (LW.ld one25 ?_)
 refine LW.go uO 3 rfl (LW.ld one25 ?_)
 refine LW.go uO 1 rfl (LW.eG (vect_Eq W B rows vv vv o.vec o.vec hv hv (by omega)) cl70 ?_)
 simp only [beq_self_eq_true,decide_true]
 refine LW.go uO 5 rfl (LW.ld one9 ?_)
 refine LW.go uO 3 rfl (LW.ld one9 ?_)
 refine LW.go uO 1 rfl (LW.strEql (true) rfl rfl underlying9 (decide_eq_true rfl) rfl ?_)
 refine LW.go uO 5 rfl (LW.ld one3 ?_)
 refine LW.go uO 3 rfl (LW.ld one3 ?_)
 refine LW.go uO 1 rfl (LW.eqlT ?_)
 refine LW.go uO 5 rfl (LW.ld one30 ?_)
 refine LW.go uO 3 rfl (LW.ld one30 ?_)
 refine LW.go uO 1 rfl (LW.eqlT ?_)
 refine LW.go uO 5 rfl ?_
 refine NW.r1 ⟨_,⟨rfl,rfl⟩,?_⟩
 exact (Sub.one .t)
theorem req_May (rows:List Row)(vv:Value)(o:OpP)(hv:VecAt W B rows vv o.vec)(ho:OpOk o)(hb:Spec prog W B 31 [opV vv o] [] (fun r post=>r=opV vv o/\post=[])) :
   Spec prog W B 16 [opV vv o] rows (fun r post=>r=.bool true/\post=rows):=by
 have hbx:=opV_cells hv o
 have hv1:=hv.one
 obtain⟨hk,hcol,hname,hvec,hpay,hnum⟩:=ho
 have hv':=hv
 obtain⟨A,cp,rfl,_⟩:=hv'
 refine Spec.eG [rows] func16 ntmps16 fun w0=>?_
 refine CW.go uO 2 rfl (LW.bx ?_)
 intro bb1
 refine LW.go uO 5 rfl ?_
 rw [hbx]
 refine CW.drawH [cr bb1 32 (opC (.slice A o.vec.length cp) o)] mixed ?_
 refine AW.ts [0,1] 33 (TW.fa fa32_0 ?_)
 refine TW.ld one3 ?_
 refine TW.nil (AW.a 2 ?_)
 refine LW.eT (req_is W B o.kind hk.1 hk.2) cl29 ((Take.none _)) ?_
 refine LW.nil (AW.b (AW.ts [3,4,5,6] 28 (TW.take rfl (Yl.not _ rfl rfl) rfl ?_)))
 refine TW.mv ?_
 refine TW.on 9 rfl rfl rfl (Yl.loadAgg (opC (.slice A o.vec.length cp) o) rfl (by repeat (first | exact List.Mem.head _ | refine List.Mem.tail _ ?_)) zd underlying32 rfl (sze szt32)) rfl ?_
 refine TW.on 9 rfl rfl rfl (Yl.loadAgg (opC (.slice A o.vec.length cp) o) rfl (by repeat (first | exact List.Mem.head _ | refine List.Mem.tail _ ?_)) zd underlying32 rfl (sze szt32)) rfl ?_
 refine TW.nil (AW.a 7 ?_)
 refine LW.on 9 rfl rfl ?_
 refine LW.eT (hb) cl31 ((Take.none _)) ?_
 refine LW.nil (AW.b (AW.a 8 ?_))
 refine LW.on 9 rfl rfl ?_
 refine LW.eG (req_same W B rows _ o hv (by omega)) cl30 ?_
 refine LW.nil (AW.b (AW.ts [9,10,11,12,13,14,15,16,17,18,19,20,21,22,23,24,25,26,27,28,29,30,31,32,33,34] 0 (TW.on 9 rfl rfl rfl (Yl.not _ rfl rfl) rfl ?_)))
 refine TW.take rfl (Yl.pickF rfl rfl) rfl ?_
 refine TW.mv ?_
 refine TW.on 16 rfl rfl rfl (Yl.fieldAddr _ rfl (fun _=>fa32_1 _ _ _)) rfl ?_
 refine TW.on 16 rfl rfl rfl (Yl.load rfl (by repeat (first | exact List.Mem.head _ | refine List.Mem.tail _ ?_)) rfl one9) rfl ?_
 refine TW.on 16 rfl rfl rfl (Yl.lenString rfl underlying9) rfl ?_
 refine TW.on 16 rfl rfl rfl (Yl.gtr false rfl rfl (decide_eq_false (by show ¬ ((o.col.length:Nat):Int)>12;omega))) rfl ?_
 refine TW.take rfl (Yl.pickF rfl rfl) rfl ?_
 refine TW.mv ?_
 refine TW.on 22 rfl rfl rfl (Yl.fieldAddr _ rfl (fun _=>fa32_2 _ _ _)) rfl ?_
 refine TW.on 22 rfl rfl rfl (Yl.load rfl (by repeat (first | exact List.Mem.head _ | refine List.Mem.tail _ ?_)) rfl one9) rfl ?_
 refine TW.on 22 rfl rfl rfl (Yl.lenString rfl underlying9) rfl ?_
 refine TW.on 22 rfl rfl rfl (Yl.gtr false rfl rfl (decide_eq_false (by show ¬ ((o.name.length:Nat):Int)>12;omega))) rfl ?_
 refine TW.take rfl (Yl.pickF rfl rfl) rfl ?_
 refine TW.mv ?_
 refine TW.on 28 rfl rfl rfl (Yl.fieldAddr _ rfl (fun _=>fa32_7 _ _ _)) rfl ?_
 refine TW.on 28 rfl rfl rfl (Yl.load rfl (by repeat (first | exact List.Mem.head _ | refine List.Mem.tail _ ?_)) rfl one25) rfl ?_
 refine TW.on 28 rfl rfl rfl (Yl.lenSlice rfl underlying25) rfl ?_
 refine TW.on 28 rfl rfl rfl (Yl.gtr false rfl rfl dF) rfl ?_
 refine TW.take rfl (Yl.pickF rfl rfl) rfl ?_
 refine TW.mv ?_
 refine TW.on 34 rfl rfl rfl (Yl.fieldAddr _ rfl (fun _=>fa32_8 _ _ _)) rfl ?_
 refine TW.on 34 rfl rfl rfl (Yl.load rfl (by repeat (first | exact List.Mem.head _ | refine List.Mem.tail _ ?_)) rfl one9) rfl ?_
 refine TW.on 34 rfl rfl rfl (Yl.lenString rfl underlying9) rfl ?_
 refine TW.on 34 rfl rfl rfl (Yl.gtr false rfl rfl (decide_eq_false (by show ¬ ((o.pay.length:Nat):Int)>40;omega))) rfl ?_
 refine TW.take rfl (Yl.pickF rfl rfl) rfl ?_
 refine TW.nil (AW.d ?_)
 refine NW.go uO 8 rfl (LW.ld one3 ?_)
 refine LW.go uO 1 rfl (LW.ld one3 ?_)
 refine LW.go uO 1 rfl (LW.ld one3 ?_)
 refine LW.go uO 1 rfl (LW.ld one3 ?_)
 refine LW.go uO 1 rfl (LW.ld one3 ?_)
 refine LW.bs [_,_,_,_,_] underlying85 info3 ?_
 intro bs50
 refine LW.go uO 5 rfl ?_
 refine CW.loopG (fun i:Nat=>[(52,iN i),(51,.int .i64 5),(50,.slice (sA bs50) 5 5)]) (fun _=>[[cr bs50 3 ([o.id,o.dim,o.metric,o.index,o.k].map i64k)],rows]) (fun i=>i<=5) (fun i=>5-i) 0 (by exact Nat.zero_le _) rfl (by repeat' constructor) ?_
 rintro i hi
 refine CW.go uO 2 rfl (LW.lss (decide ((i:Int)<5)) rfl rfl (rfl) rfl ?_)
 refine LW.go uO 3 rfl ?_
 refine CW.cond rfl (fun hc53=>?_) (fun hc53=>?_)
 . have hin:i<5:=oT hc53
   obtain⟨z,hz,_⟩:=drop_at (xs:=[o.id,o.dim,o.metric,o.index,o.k]) (i:=i) hin
   have hzn:=hnum z (List.mem_of_getElem? hz)
   have hg:([o.id,o.dim,o.metric,o.index,o.k].map i64k)[i]?=some (i64k z):=by rw [List.getElem?_map,hz];rfl
   refine CW.go uO 6 rfl (LW.indexAddr (i) rfl rfl underlying85 ixs85 (by omega) (by omega) (by simp) rfl ?_)
   refine LW.load (v:=i64k z) rfl .t (hg) one3 rfl ?_
   refine LW.go uO 6 rfl (LW.lssF ?_)
   refine LW.go uO 4 rfl (LW.gtrF ?_)
   refine LW.go uO 8 rfl (LW.ad ((i+1:Int)) ?_)
   exact LW.go uO 2 rfl (NW.mG (i+1) (by exact⟨by omega,by omega⟩))
 . refine CW.go uO 2 rfl (NW.then_exit (NW.go uO 8 rfl ?_))
   refine NW.r1 ⟨_,⟨rfl,rfl⟩,?_⟩
   exact (Sub.one .t)
end
open Go.RowKit
def txt (s:Nm):List UInt8:=encZ (s.length:Int)++s
def encF (o:OpP):List UInt8:=if o.kind=1 then encs [o.dim,o.metric,o.index] else if o.kind=3 then encs [o.id]++encV o.vec++txt o.pay++encs [o.draw] else []
def encO (o:OpP):List UInt8:=encs [o.kind]++if o.kind=5 then txt o.name++txt o.col else txt o.col++encF o
theorem txt_len (s:Nm)(h:s.length<=100):(txt s).length<=110:=by
 have:=sizeZ_le (s.length:Int)
 unfold txt
 rw [List.length_append,encZ_len]
 omega
section
variable (W:World)(B:Nat)
theorem req_fields1 (w:Nat)(v:Value)(bs:List UInt8)(ch:List Row)(ho:OwnB v bs ch)(col:Nm)(dim m ix:Int)(hd:I64 dim)(hm:I64 m)(hx:I64 ix)(hb:bs.length<=1000) :
  Spec prog W B 42 [ptr w,opV nilV (op1 col dim m ix)] ([cr w 99 [v]]++ch) (fun r post=>r=.tuple #[]/\∃ v' ch',OwnB v' (bs++encs [dim,m,ix]) ch'/\post=[cr w 99 [v']]++ch'):=by
 refine Spec.eG [[cr w 99 [v]],ch] func42 ntmps42 fun w0=>?_
 refine CW.go uO 2 rfl (LW.bx ?_)
 intro bb3
 refine LW.go uO 3 rfl ?_
 rw [show (opV nilV (op1 col dim m ix)).cells.toList=opC nilV (op1 col dim m ix) from rfl]
 refine CW.go uO 2 rfl (LW.load (v:=.int .i64 1) rfl .t (rfl) one3 rfl ?_)
 refine LW.go uO 5 rfl (LW.eqlT ?_)
 refine LW.go uO 7 rfl (LW.ld one3 ?_)
 refine LW.go uO 1 rfl (LW.ld one3 ?_)
 refine LW.go uO 1 rfl (LW.ld one3 ?_)
 refine LW.bs [_,_,_] underlying166 info2 ?_
 intro bs15
 refine LW.cT (bin_WInt W B w v bs ch ho [dim,m,ix] (by intro n hn;simp at hn;rcases hn with rfl | rfl | rfl<;>assumption) [cr bs15 2 ([dim,m,ix].map i64v)] (some ⟨bs15,0,none⟩) 3 (Src.row fun j v hj=>by rw [Nat.zero_add];exact hj) (by simp;omega)) cl40 .n3 ?_
 rintro _ _ ⟨rfl,v',ch',ho',rfl⟩;refine LW.splitA (LW.splitB ?_)
 refine LW.go uO 2 rfl ?_
 refine NW.end0 rfl  ⟨_,⟨rfl,v',ch',ho',rfl⟩,?_⟩
 exact .s2
theorem req_fields2 (rows:List Row)(w:Nat)(col:Nm):Spec prog W B 42 [ptr w,opV nilV (op2 col)] rows (fun r post=>r=.tuple #[]/\post=rows):=by
 refine Spec.eG [rows] func42 ntmps42 fun w0=>?_
 refine CW.go uO 2 rfl (LW.bx ?_)
 intro bb3
 refine LW.go uO 3 rfl ?_
 rw [show (opV nilV (op2 col)).cells.toList=opC nilV (op2 col) from rfl]
 refine CW.go uO 2 rfl (LW.load (v:=.int .i64 2) rfl .t (rfl) one3 rfl ?_)
 refine LW.go uO 5 rfl (LW.eqlF ?_)
 refine LW.go uO 6 rfl (LW.eqlF ?_)
 refine LW.go uO 7 rfl (LW.eqlF ?_)
 refine LW.go uO 5 rfl (LW.eqlF ?_)
 refine LW.go uO 6 rfl (LW.eqlF ?_)
 refine LW.go uO 6 rfl (LW.eqlF ?_)
 refine LW.go uO 6 rfl ?_
 refine NW.end0 rfl  ⟨_,⟨rfl,rfl⟩,?_⟩
 exact (Sub.one .t)
theorem req_fields3 (w:Nat)(v:Value)(bs:List UInt8)(ch rows:List Row)(ho:OwnB v bs ch)(col:Nm)(id:Int)(vec:List Int)(pay:List UInt8)(draw:Int)(vv:Value)(hv:VecAt W B rows vv vec)(hid:I64 id)(hvo:VOk vec)(hpl:pay.length<=40)(hd0:0<=draw)(hd1:draw<4294967296)(hb:bs.length<=1000) :
  Spec prog W B 42 [ptr w,opV vv (op3 col id vec pay draw)] ([cr w 99 [v]]++(ch++rows)) (fun r post=>r=.tuple #[]/\∃ v' ch',OwnB v' (bs++encF (op3 col id vec pay draw)) ch'/\post=[cr w 99 [v']]++(ch'++rows)):=by
 have hbx:=opV_cells (o:=op3 col id vec pay draw) hv
 have hv1:=hv.one
 have hl1:=encs_len [id]
 have hl2:=encV_len vec
 have hv8:=hvo.1
 have hl3:=txt_len pay (by omega)
 have hl4:=encZ_len (pay.length:Int)
 have hl5:=sizeZ_le (pay.length:Int)
 simp only [List.length_cons,List.length_nil] at hl1
 refine Spec.eG [[cr w 99 [v]],ch,rows] func42 ntmps42 fun w0=>?_
 refine CW.go uO 2 rfl (LW.bx ?_)
 intro bb3
 refine LW.go uO 3 rfl ?_
 rw [hbx]
 refine CW.go uO 2 rfl (LW.load (v:=.int .i64 3) rfl .t (rfl) one3 rfl ?_)
 refine LW.go uO 5 rfl (LW.eqlF ?_)
 refine LW.go uO 6 rfl (LW.eqlF ?_)
 refine LW.go uO 7 rfl (LW.eqlF ?_)
 refine LW.go uO 5 rfl (LW.eqlF ?_)
 refine LW.go uO 6 rfl (LW.eqlT ?_)
 refine LW.go uO 8 rfl (LW.ld one3 ?_)
 refine LW.bs [_] underlying166 info2 ?_
 intro bs37
 refine LW.cT (bin_WInt W B w v bs ch ho [id] (by intro n hn;simp at hn;subst hn;exact hid) [cr bs37 2 ([id].map i64v)] (some ⟨bs37,0,none⟩) 1 (Src.row fun j v hj=>by rw [Nat.zero_add];exact hj) (by simp;omega)) cl40 .n3 ?_
 rintro _ _ ⟨rfl,v2,ch2,ho2,rfl⟩;refine LW.splitA (LW.splitB ?_)
 refine LW.go uO 6 rfl (LW.ld one25 ?_)
 refine LW.cT (vect_Put W B w v2 _ ch2 rows vv vec ho2 hv (fun x hx=>(hvo.2 x hx).i32) (by omega) (by rw [List.length_append];omega)) cl88 .n3 ?_
 rintro _ _ ⟨rfl,v3,ch3,ho3,rfl⟩;refine LW.splitA (LW.splitB ?_)
 refine LW.go uO 6 rfl (LW.ld one9 ?_)
 refine LW.cT (bin_WText W B w v3 _ ch3 ho3 pay (by simp only [List.length_append];omega)) cl41 .n2 ?_
 rintro _ _ ⟨rfl,v4,ch4,ho4,rfl⟩;refine LW.splitA ?_
 refine LW.go uO 5 rfl (LW.ld one30 ?_)
 refine LW.convInt (draw) rfl underlying30 underlying2 (by show IntKind.i64.wrap draw=draw;exact wr64 rfl (by omega) (by omega)) rfl ?_
 refine LW.bs [_] underlying166 info2 ?_
 intro bs51
 refine LW.cT (bin_WInt W B w v4 _ ch4 ho4 [draw] (by intro n hn;simp at hn;subst hn;exact⟨by omega,by omega⟩) [cr bs51 2 ([draw].map i64v)] (some ⟨bs51,0,none⟩) 1 (Src.row fun j v hj=>by rw [Nat.zero_add];exact hj) (by simp only [List.length_append,List.length_cons,List.length_nil];omega)) cl40 .n3 ?_
 rintro _ _ ⟨rfl,v5,ch5,ho5,rfl⟩;refine LW.splitA (LW.splitB ?_)
 refine LW.go uO 2 rfl ?_
 refine NW.end0 rfl  ⟨_,⟨rfl,v5,ch5,by have e:bs++encF (op3 col id vec pay draw)=bs++encs [id]++encV vec++encZ (pay.length:Int)++pay++encs [draw]:=(by show bs++(encs [id]++encV vec++(encZ (pay.length:Int)++pay)++encs [draw])=_;simp only [List.append_assoc]);rw [e];exact ho5,rfl⟩,?_⟩
 exact .s3
theorem req_Put1 (col:Nm)(dim m ix:Int)(ho:OpOk (op1 col dim m ix)) :
  Spec prog W B 19 [opV nilV (op1 col dim m ix)] [] (fun r post=>∃ u ch,r=.tuple #[u,.nilIface]/\OwnB u (encO (op1 col dim m ix)) ch/\post=ch):=by
 have hc:col.length<=12:=ho.col
 have hn1:0<=dim/\dim<=1000000:=ho.num dim (by simp [op1,opZ])
 have hn2:0<=m/\m<=1000000:=ho.num m (by simp [op1,opZ])
 have hn3:0<=ix/\ix<=1000000:=ho.num ix (by simp [op1,opZ])
 have hl1:=encs_len [1]
 have hl4:=encZ_len (col.length:Int)
 have hl5:=sizeZ_le (col.length:Int)
 have hl6:=encs_len [dim,m,ix]
 simp only [List.length_cons,List.length_nil] at hl1 hl6
 refine Spec.eG [] func19 ntmps19 fun w0=>?_
 refine CW.go uO 2 rfl (LW.bx ?_)
 intro bb1
 refine LW.go uO 6 rfl ?_
 rw [show (opV nilV (op1 col dim m ix)).cells.toList=opC nilV (op1 col dim m ix) from rfl]
 refine CW.go uO 1 rfl (LW.lA (opC nilV (op1 col dim m ix)) underlying32 szt32 ?_)
 refine LW.eT (req_May W B [] nilV (op1 col dim m ix) VecAt.none ho (req_bare1 W B col dim m ix)) cl16 ((Take.none _)) ?_
 refine LW.go uO 8 rfl (LW.alloc zero99 rfl ?_)
 intro ba4
 refine LW.go uO 5 rfl (LW.load (v:=.int .i64 1) rfl .t (rfl) one3 rfl ?_)
 refine LW.bs [_] underlying166 info2 ?_
 intro bs11
 refine LW.cT (bin_WInt W B ba4 (.slice none 0 0) [] [] OwnB.nil [1] (by intro n hn;simp at hn;subst hn;exact⟨by omega,by omega⟩) [cr bs11 2 ([1].map i64v)] (some ⟨bs11,0,none⟩) 1 (Src.row fun j v hj=>by rw [Nat.zero_add];exact hj) (by simp)) cl40 (Take.both .t (Take.both .t (Take.none _))) ?_
 rintro _ _ ⟨rfl,v2,ch2,ho2,rfl⟩;refine LW.splitA (LW.splitB ?_)
 refine LW.go uO 6 rfl (LW.load (v:=.int .i64 1) rfl .t (rfl) one3 rfl ?_)
 refine LW.go uO 5 rfl (LW.eqlF ?_)
 refine LW.go uO 6 rfl (LW.eqlF ?_)
 refine LW.go uO 7 rfl (LW.eqlT ?_)
 refine LW.go uO 10 rfl (LW.ld one9 ?_)
 refine LW.cT (bin_WText W B ba4 v2 _ ch2 ho2 col (by simp only [List.length_append,List.length_nil];omega)) cl41 .n2 ?_
 rintro _ _ ⟨rfl,v3,ch3,ho3,rfl⟩;refine LW.splitA ?_
 refine LW.go uO 3 rfl (LW.lA (opC nilV (op1 col dim m ix)) underlying32 szt32 ?_)
 refine LW.cT (req_fields1 W B ba4 v3 _ ch3 ho3 col dim m ix ⟨by omega,by omega⟩ ⟨by omega,by omega⟩ ⟨by omega,by omega⟩ (by simp only [List.length_append,List.length_nil];omega)) cl42 .n2 ?_
 rintro _ _ ⟨rfl,v5,ch5,ho5,rfl⟩;refine LW.splitA ?_
 refine LW.go uO 5 rfl (LW.cT (bin_WBytes W B ba4 v5 _ ch5 ho5 (by simp only [List.length_append,List.length_nil];omega)) cl43 .n2 ?_)
 rintro u _ ⟨ch6,ho6,rfl⟩;refine LW.splitA ?_
 refine LW.go uO 5 rfl ?_
 refine NW.ret2 rfl rfl rfl ⟨_,⟨u,ch6,rfl,by have e:encO (op1 col dim m ix)=[]++encs [1]++encZ (col.length:Int)++col++encs [dim,m,ix]:=(by show encs [1]++((encZ (col.length:Int)++col)++encs [dim,m,ix])=_;simp only [List.append_assoc,List.nil_append]);rw [e];exact ho6,rfl⟩,?_⟩
 exact (Sub.one .t)
end
end Go.Proofs.YtnlpccoigflheaaGreatDoor
