/- TReq4 TVdb1 TVdb2 TReq5 -/
import Derived.Test.YtnlpccoigflheaaGreatDoorTReq3
import Derived.Test.YtnlpccoigflheaaGreatDoorFac
namespace Go.Proofs.YtnlpccoigflheaaGreatDoor
open Go.RowKit
open Go.Proofs.Tryz
def TuP:Tbl:=⟨[(32,0,0),(32,1,1),(32,2,2),(32,4,4),(32,5,5),(32,6,6),(62,1,1),(62,3,3),(206,0,0),(206,1,1)],[],[65]⟩
theorem uP:TuP.Ok Tryz.prog:=.of (⟨⟨_,Tryz.underlying65⟩,trivial⟩)
section
variable (W:World)(B:Nat)
theorem req_Put2 (col:Nm)(ho:OpOk (op2 col)) :
  Spec prog W B 19 [opV nilV (op2 col)] [] (fun r post=>∃ u ch,r=.tuple #[u,.nilIface]/\OwnB u (encO (op2 col)) ch/\post=ch):=by
 have hc:col.length<=12:=ho.col
 have hl1:=encs_len [2]
 have hl4:=encZ_len (col.length:Int)
 have hl5:=sizeZ_le (col.length:Int)
 simp only [List.length_cons,List.length_nil] at hl1
 refine Spec.eG [] func19 ntmps19 fun w0=>?_
 refine CW.go uP 2 rfl (LW.bx ?_)
 intro bb1
 refine LW.go uP 6 rfl ?_
 rw [show (opV nilV (op2 col)).cells.toList=opC nilV (op2 col) from rfl]
 refine CW.go uP 1 rfl (LW.lA (opC nilV (op2 col)) underlying32 szt32 ?_)
 refine LW.eT (req_May W B [] nilV (op2 col) VecAt.none ho (req_bare2 W B col)) cl16 ((Take.none _)) ?_
 refine LW.go uP 8 rfl (LW.alloc zero99 rfl ?_)
 intro ba4
 refine LW.go uP 5 rfl (LW.load (v:=.int .i64 2) rfl .t (rfl) one3 rfl ?_)
 refine LW.bs [_] underlying166 info2 ?_
 intro bs11
 refine LW.cT (bin_WInt W B ba4 (.slice none 0 0) [] [] OwnB.nil [2] (by intro n hn;simp at hn;subst hn;exact⟨by omega,by omega⟩) [cr bs11 2 ([2].map i64v)] (some ⟨bs11,0,none⟩) 1 (Src.row fun j v hj=>by rw [Nat.zero_add];exact hj) (by simp)) cl40 (Take.both .t (Take.both .t (Take.none _))) ?_
 rintro _ _ ⟨rfl,v2,ch2,ho2,rfl⟩;refine LW.splitA (LW.splitB ?_)
 refine LW.go uP 6 rfl (LW.load (v:=.int .i64 2) rfl .t (rfl) one3 rfl ?_)
 refine LW.go uP 5 rfl (LW.eqlF ?_)
 refine LW.go uP 6 rfl (LW.eqlF ?_)
 refine LW.go uP 7 rfl (LW.eqlF ?_)
 refine LW.go uP 6 rfl (LW.eqlT ?_)
 refine LW.go uP 10 rfl (LW.ld one9 ?_)
 refine LW.cT (bin_WText W B ba4 v2 _ ch2 ho2 col (by simp only [List.length_append,List.length_nil];omega)) cl41 .n2 ?_
 rintro _ _ ⟨rfl,v3,ch3,ho3,rfl⟩;refine LW.splitA ?_
 refine LW.go uP 3 rfl (LW.lA (opC nilV (op2 col)) underlying32 szt32 ?_)
 refine LW.eT (req_fields2 W B [] ba4 col) cl42 ((Take.none _)) ?_
 refine LW.go uP 5 rfl (LW.cT (bin_WBytes W B ba4 v3 _ ch3 ho3 (by simp only [List.length_append,List.length_nil];omega)) cl43 .n2 ?_)
 rintro u _ ⟨ch6,ho6,rfl⟩;refine LW.splitA ?_
 refine LW.go uP 5 rfl ?_
 refine NW.ret2 rfl rfl rfl ⟨_,⟨u,ch6,rfl,by have e:encO (op2 col)=[]++encs [2]++encZ (col.length:Int)++col:=(by show encs [2]++((encZ (col.length:Int)++col)++[])=_;simp only [List.append_assoc,List.nil_append,List.append_nil]);rw [e];exact ho6,rfl⟩,?_⟩
 exact (Sub.one .t)
theorem req_Put5 (name col:Nm)(ho:OpOk (op5 name col)) :
  Spec prog W B 19 [opV nilV (op5 name col)] [] (fun r post=>∃ u ch,r=.tuple #[u,.nilIface]/\OwnB u (encO (op5 name col)) ch/\post=ch):=by
 have hc:col.length<=12:=ho.col
 have hc2:name.length<=12:=ho.name
 have hl1:=encs_len [5]
 have hl4:=encZ_len (col.length:Int)
 have hl5:=sizeZ_le (col.length:Int)
 have hl6:=encZ_len (name.length:Int)
 have hl7:=sizeZ_le (name.length:Int)
 simp only [List.length_cons,List.length_nil] at hl1
 refine Spec.eG [] func19 ntmps19 fun w0=>?_
 refine CW.go uP 2 rfl (LW.bx ?_)
 intro bb1
 refine LW.go uP 6 rfl ?_
 rw [show (opV nilV (op5 name col)).cells.toList=opC nilV (op5 name col) from rfl]
 refine CW.go uP 1 rfl (LW.lA (opC nilV (op5 name col)) underlying32 szt32 ?_)
 refine LW.eT (req_May W B [] nilV (op5 name col) VecAt.none ho (req_bare5 W B name col)) cl16 ((Take.none _)) ?_
 refine LW.go uP 8 rfl (LW.alloc zero99 rfl ?_)
 intro ba4
 refine LW.go uP 5 rfl (LW.load (v:=.int .i64 5) rfl .t (rfl) one3 rfl ?_)
 refine LW.bs [_] underlying166 info2 ?_
 intro bs11
 refine LW.cT (bin_WInt W B ba4 (.slice none 0 0) [] [] OwnB.nil [5] (by intro n hn;simp at hn;subst hn;exact⟨by omega,by omega⟩) [cr bs11 2 ([5].map i64v)] (some ⟨bs11,0,none⟩) 1 (Src.row fun j v hj=>by rw [Nat.zero_add];exact hj) (by simp)) cl40 (Take.both .t (Take.both .t (Take.none _))) ?_
 rintro _ _ ⟨rfl,v2,ch2,ho2,rfl⟩;refine LW.splitA (LW.splitB ?_)
 refine LW.go uP 6 rfl (LW.load (v:=.int .i64 5) rfl .t (rfl) one3 rfl ?_)
 refine LW.go uP 5 rfl (LW.eqlT ?_)
 refine LW.go uP 7 rfl (LW.ld one9 ?_)
 refine LW.cT (bin_WText W B ba4 v2 _ ch2 ho2 name (by simp only [List.length_append,List.length_nil];omega)) cl41 .n2 ?_
 rintro _ _ ⟨rfl,v3,ch3,ho3,rfl⟩;refine LW.splitA ?_
 refine LW.go uP 4 rfl (LW.ld one9 ?_)
 refine LW.cT (bin_WText W B ba4 v3 _ ch3 ho3 col (by simp only [List.length_append,List.length_nil];omega)) cl41 .n2 ?_
 rintro _ _ ⟨rfl,v5,ch5,ho5,rfl⟩;refine LW.splitA ?_
 refine LW.go uP 5 rfl (LW.cT (bin_WBytes W B ba4 v5 _ ch5 ho5 (by simp only [List.length_append,List.length_nil];omega)) cl43 .n2 ?_)
 rintro u _ ⟨ch6,ho6,rfl⟩;refine LW.splitA ?_
 refine LW.go uP 5 rfl ?_
 refine NW.ret2 rfl rfl rfl ⟨_,⟨u,ch6,rfl,by have e:encO (op5 name col)=[]++encs [5]++encZ (name.length:Int)++name++encZ (col.length:Int)++col:=(by show encs [5]++((encZ (name.length:Int)++name)++(encZ (col.length:Int)++col))=_;simp only [List.append_assoc,List.nil_append]);rw [e];exact ho6,rfl⟩,?_⟩
 exact (Sub.one .t)
theorem req_Put3 (col:Nm)(id:Int)(vec:List Int)(pay:List UInt8)(draw:Int)(rows:List Row)(vv:Value)(hv:VecAt W B rows vv vec)(ho:OpOk (op3 col id vec pay draw))(hvo:VOk vec)(hd0:0<=draw)(hd1:draw<4294967296) :
  Spec prog W B 19 [opV vv (op3 col id vec pay draw)] rows (fun r post=>∃ u ch,r=.tuple #[u,.nilIface]/\OwnB u (encO (op3 col id vec pay draw)) ch/\post=ch++rows):=by
 have hbx:=opV_cells (o:=op3 col id vec pay draw) hv
 have hv1:=hv.one
 have hv':=hv
 obtain⟨A,cp,rfl,_⟩:=hv'
 have hc:col.length<=12:=ho.col
 have hpl:pay.length<=40:=ho.pay
 have hn1:0<=id/\id<=1000000:=ho.num id (by simp [op3,opZ])
 have hl1:=encs_len [3]
 have hl4:=encZ_len (col.length:Int)
 have hl5:=sizeZ_le (col.length:Int)
 have hl2:=encV_len vec
 have hv8:=hvo.1
 have hl3:=txt_len pay (by omega)
 have hl8:=encs_len [id]
 have hl9:=encs_len [draw]
 simp only [List.length_cons,List.length_nil] at hl1 hl8 hl9
 have hlF:(encF (op3 col id vec pay draw)).length<=400:=by show (encs [id]++encV vec++txt pay++encs [draw]).length<=400;simp only [List.length_append];omega
 refine Spec.eG [rows] func19 ntmps19 fun w0=>?_
 refine CW.go uP 2 rfl (LW.bx ?_)
 intro bb1
 refine LW.go uP 6 rfl ?_
 rw [hbx]
 refine CW.go uP 1 rfl (LW.lA (opC (.slice A vec.length cp) (op3 col id vec pay draw)) underlying32 szt32 ?_)
 refine LW.eG (req_May W B rows _ (op3 col id vec pay draw) hv ho (req_bare3 W B col id vec pay draw A cp)) cl16 ?_
 refine LW.go uP 8 rfl (LW.alloc zero99 rfl ?_)
 intro ba4
 refine LW.go uP 5 rfl (LW.load (v:=.int .i64 3) rfl .t (rfl) one3 rfl ?_)
 refine LW.bs [_] underlying166 info2 ?_
 intro bs11
 refine LW.cT (bin_WInt W B ba4 (.slice none 0 0) [] [] OwnB.nil [3] (by intro n hn;simp at hn;subst hn;exact⟨by omega,by omega⟩) [cr bs11 2 ([3].map i64v)] (some ⟨bs11,0,none⟩) 1 (Src.row fun j v hj=>by rw [Nat.zero_add];exact hj) (by simp)) cl40 (Take.both .t (Take.both .t (Take.none _))) ?_
 rintro _ _ ⟨rfl,v2,ch2,ho2,rfl⟩;refine LW.splitA (LW.splitB ?_)
 refine LW.go uP 6 rfl (LW.load (v:=.int .i64 3) rfl .t (rfl) one3 rfl ?_)
 refine LW.go uP 5 rfl (LW.eqlF ?_)
 refine LW.go uP 6 rfl (LW.eqlF ?_)
 refine LW.go uP 7 rfl (LW.eqlF ?_)
 refine LW.go uP 6 rfl (LW.eqlF ?_)
 refine LW.go uP 6 rfl (LW.eqlF ?_)
 refine LW.go uP 6 rfl (LW.eqlT ?_)
 refine LW.go uP 10 rfl (LW.ld one9 ?_)
 refine LW.cT (bin_WText W B ba4 v2 _ ch2 ho2 col (by simp only [List.length_append,List.length_nil];omega)) cl41 .n2 ?_
 rintro _ _ ⟨rfl,v3,ch3,ho3,rfl⟩;refine LW.splitA ?_
 refine LW.go uP 3 rfl (LW.lA (opC (.slice A vec.length cp) (op3 col id vec pay draw)) underlying32 szt32 ?_)
 refine LW.cT (req_fields3 W B ba4 v3 _ ch3 rows ho3 col id vec pay draw _ hv ⟨by omega,by omega⟩ hvo hpl hd0 hd1 (by simp only [List.length_append,List.length_nil];omega)) cl42 .n3 ?_
 rintro _ _ ⟨rfl,v5,ch5,ho5,rfl⟩;refine LW.splitA (LW.splitB ?_)
 refine LW.go uP 5 rfl (LW.cT (bin_WBytes W B ba4 v5 _ ch5 ho5 (by simp only [List.length_append,List.length_nil];omega)) cl43 .n2 ?_)
 rintro u _ ⟨ch6,ho6,rfl⟩;refine LW.splitA ?_
 refine LW.go uP 5 rfl ?_
 refine NW.ret2 rfl rfl rfl ⟨_,⟨u,ch6,rfl,by have e:encO (op3 col id vec pay draw)=[]++encs [3]++encZ (col.length:Int)++col++encF (op3 col id vec pay draw):=(by show encs [3]++((encZ (col.length:Int)++col)++encF (op3 col id vec pay draw))=_;simp only [List.append_assoc,List.nil_append]);rw [e];exact ho6,rfl⟩,?_⟩
 exact .s2
end
open Go.RowKit
def dbC (pd l pc:Nat):List Value:=[ptr pd,ptr l,ptr pc,.bool false]
def VdbR (W:World)(B:Nat)(im:List Row)(p pd bn bw bl n:Nat)(g:LogS)(c:CorP)(rows:List Row):Prop:=
 ∃ l q d pc rc,Rest n d/\LogS.Fine n g/\LogAt d.N g/\CorR W B im pc c rc/\rows=[cr p 62 (dbC pd l pc)]++(logC l q pd g.log++(devC pd bn bw bl n d++rc))
theorem VdbR.more {W:World}{B:Nat}{im im':List Row}{p pd bn bw bl n:Nat}{g:LogS}{c:CorP}{rows:List Row}(h:VdbR W B im p pd bn bw bl n g c rows)(hx:∀ y∈im,y∈im'):VdbR W B im' p pd bn bw bl n g c rows:=by
 obtain⟨l,q,d,pc,rc,h1,h2,h3,h4,h5⟩:=h
 exact⟨l,q,d,pc,rc,h1,h2,h3,h4.more hx,h5⟩
def logAdd (g:LogS)(b:List UInt8):LogS:=⟨g.serial+1,g.area,g.length,g.recs++[b]⟩
section
variable (W:World)(B:Nat)
theorem vdb_Make (p bn bw bl n:Nat)(s:DevS)(hs:s.Ok n)(hu:Up s){sr:Int}{ns:List Int}(h:Hold n s (SlotAt · sr ns))(h1:sr<=999999998) :
  Spec prog W B 13 [ptr p] (devC p bn bw bl n s) (fun r post=>∃ pv,r=.tuple #[ptr pv,.nilIface]/\∀ im,VdbR W B im pv p bn bw bl n ⟨sr+1,0,0,[]⟩ CorP.new post):=by
 refine Spec.eG [devC p bn bw bl n s] func13 ntmps13 fun w0=>?_
 refine CW.go uP 9 rfl (LW.cG (wal_Make_ok W B p bn bw bl n s hs hu h h1) cl26 ?_)
 rintro _ _ ⟨l,q,d,rfl,hr,hfi,hla,_,rfl⟩;refine LW.splitA ?_
 refine LW.go uP 11 rfl (LW.neqF ?_)
 refine LW.go uP 9 rfl (LW.cT (core_New W B) cl27 ((Take.none _)) ?_)
 rintro _ rc ⟨pc,rfl,hc⟩
 refine LW.bd [_,_,_] (#[ptr p,ptr l,ptr pc,.bool false]) ?_
 refine LW.bx ?_
 intro bb20
 refine LW.go uP 5 rfl ?_
 refine NW.ret2 rfl rfl rfl ⟨_,⟨bb20,rfl,fun im=>⟨l,q,d,pc,rc,hr,hfi,hla,hc im,(rfl:[cr bb20 62 (dbC p l pc)]++(logC l q p (LogS.log ⟨sr+1,0,0,[]⟩)++(devC p bn bw bl n d++rc))=_)⟩⟩,?_⟩
 exact .s4
set_option maxHeartbeats 1000000 in
theorem vdb_Do (p pd bn bw bl n:Nat)(g:LogS)(c:CorP)(Cp:CorP->Prop)(rows im:List Row)(vv:Value)(o:OpP)(b:List UInt8)(hd:VdbR W B im p pd bn bw bl n g c rows)(hv:VecAt W B im vv o.vec)(hk:o.kind<12)
   (hmay:Spec prog W B 16 [opV vv o] im (fun r post=>r=.bool true/\post=im))
   (hcan:∀ pc rc,CorR W B im pc c rc->Spec prog W B 18 [ptr pc,opV vv o] (rc++im) (fun r post=>∃ ch,ErrR r 0 ch/\post=ch++(rc++im)))
   (hput:Spec prog W B 19 [opV vv o] im (fun r post=>∃ u ch,r=.tuple #[u,.nilIface]/\OwnB u b ch/\post=ch++im))
   (hdo:∀ pc rc,CorR W B im pc c rc->Spec prog W B 23 [ptr pc,opV vv o] (rc++im) (fun r post=>r=.tuple #[.agg rep0.toArray,.nilIface]/\∃ c' rc' ch,Cp c'/\CorR W B (ch++im) pc c' rc'/\post=rc'++(ch++im)))
   (hb:okRec b) (hfit:g.used+b.length+2<=ringN n) (hser:g.serial<=999999999) (hn1:n<=4096) :
   Spec prog W B 8 [ptr p,opV vv o] (rows++im) (fun r post=>r=.tuple #[.agg rep0.toArray,.nilIface]/\∃ c' rows' ch,Cp c'/\VdbR W B (ch++im) p pd bn bw bl n (logAdd g b) c' rows'/\post=rows'++(ch++im)):=by
 have hbx:=opV_cells hv o
 have hv1:=hv.one
 obtain⟨l,q,d,pc,rc,hr,hfi,hla,hc,rfl⟩:=hd
 have hrg:=ringN_le hn1
 have hcan':=hcan pc rc hc
 have hdo':=hdo pc rc hc
 have hbl:=hb.2
 have hn0:=hr.ok.n0
 refine Spec.eG [[cr p 62 (dbC pd l pc)],logC l q pd g.log,devC pd bn bw bl n d,rc,im] func8 ntmps8 fun w0=>?_
 refine CW.go uP 2 rfl (LW.bx ?_)
 intro bb3
 refine LW.alloc zero41 rfl ?_
 intro ba4
 refine LW.go uP 4 rfl ?_
 rw [hbx]
 refine CW.go uP 2 rfl (LW.load (v:=.int .i64 o.kind) rfl .t (rfl) one3 rfl ?_)
 refine LW.geqF ?_
 refine LW.go uP 8 rfl (LW.pn underlying46 ?_)
 refine LW.go uP 8 rfl (LW.ld one4 ?_)
 refine LW.go uP 13 rfl (LW.lA (opC vv o) underlying32 szt32 ?_)
 refine LW.eG (hmay) cl16 ?_
 refine LW.go uP 17 rfl (CW.drawH [cr p 62 (dbC pd l pc),cr bb3 32 (opC vv o)] mixed ?_)
 refine AW.ts [0,1,2,3,4] 2 (TW.mv ?_)
 refine TW.np ?_
 refine TW.fa fa62_2 ?_
 refine TW.ld one60 ?_
 refine TW.take rfl (Yl.loadAgg (opC vv o) rfl (by repeat (first | exact List.Mem.head _ | refine List.Mem.tail _ ?_)) zd underlying32 rfl (sze szt32)) rfl ?_
 refine TW.nil (AW.a 5 ?_)
 refine LW.cT (hcan') cl18 .n2 ?_
 rintro r _ ⟨ch,hr9,rfl⟩;obtain⟨rfl,rfl⟩:=hr9.zero;refine LW.splitA (LW.splitB ?_)
 refine LW.nil (AW.b (AW.ts [6] 0 (TW.as ?_)))
 refine TW.nil (AW.d ?_)
 refine NW.go uP 4 rfl (LW.ifaceNotNil _ rfl underlying43 (.inl ⟨rfl,rfl⟩) rfl ?_)
 refine LW.go uP 7 rfl (LW.lA (opC vv o) underlying32 szt32 ?_)
 refine LW.cG (hput) cl19 ?_
 rintro _ _ ⟨u,chb,rfl,hob,rfl⟩;obtain⟨A,cp,rfl,hA,hcp⟩:=OwnS.val hob;refine LW.splitA ?_
 refine LW.go uP 12 rfl (LW.ad (((b.length+2:Nat):Int)) ?_)
 refine LW.go uP 3 rfl (LW.ld one59 ?_)
 refine LW.front (p:=logC l q pd g.log) .t (LW.splitA ?_)
 refine LW.eT (wal_Room W B l q pd bn bw bl n d hn0 hn1 g.log (by show g.used<=_;omega)) cl20 .n2 ?_
 refine LW.splitA ?_
 refine LW.gtr false rfl rfl (decide_eq_false (by show ¬ (((b.length+2:Nat):Int)>(ringN n:Int)-(g.used:Int));omega)) rfl ?_
 refine LW.go uP 11 rfl (LW.ld one59 ?_)
 refine LW.go uP 1 rfl (LW.cT (wal_Append_ok W B l q pd bn bw bl n d hr hfi hla hser b hb hfit chb A cp (OwnS.src hob)) cl21 (Take.both .t (Take.both .n2 .t)) ?_)
 rintro _ _ ⟨rfl,d',hr',hfi',hla',_,rfl⟩;refine LW.splitA (LW.splitB ?_)
 refine LW.go uP 6 rfl (LW.neqF ?_)
 refine LW.go uP 6 rfl (CW.drawH [cr p 62 (dbC pd l pc),cr bb3 32 (opC vv o)] mixed ?_)
 refine AW.ts [0,1,2,3,4] 7 (TW.mv ?_)
 refine TW.np ?_
 refine TW.fa fa62_2 ?_
 refine TW.ld one60 ?_
 refine TW.take rfl (Yl.loadAgg (opC vv o) rfl (by repeat (first | exact List.Mem.head _ | refine List.Mem.tail _ ?_)) zd underlying32 rfl (sze szt32)) rfl ?_
 refine TW.nil (AW.all [5,9] (by kernel_rfl) rfl ?_)
 refine AWs.cons rfl ?_ ?_
 . refine LW.cT (hdo') cl23 .n2 ?_
   rintro _ _ ⟨rfl,c',rc',ch,hcp',hc',rfl⟩;refine LW.splitA ?_
   refine LW.nil (AW.b (AW.ts [6,7,8] 3 (TW.mv ?_)))
   refine TW.take rfl (Yl.extract rfl rfl) rfl ?_
   refine TW.take rfl (Yl.extract rfl rfl) rfl ?_
   refine TW.nil (AW.a 9 ?_)
   refine LW.alloc zero41 rfl ?_
   intro ba13
   refine LW.nil (AW.b (AW.a 10 ?_))
   refine LW.sA (rep0) szt41 (rep0_one) ?_
   refine LW.nil (AW.b (AW.ts [11] 0 (TW.as ?_)))
   refine TW.nil (AW.d ?_)
   refine NW.go uP 2 rfl (CW.drawH [cr ba13 41 rep0] mixed ?_)
   refine AW.ts [0,1] 3 (TW.take rfl (Yl.loadAgg (rep0) rfl (by repeat (first | exact List.Mem.head _ | refine List.Mem.tail _ ?_)) zd underlying41 rfl (sze szt41)) rfl ?_)
   refine TW.mv ?_
   refine TW.nil (AW.a 2 ?_)
   refine LW.cT (vdb_at W B .nilIface 0 [] ErrR.none) cl15 ((Take.none _)) ?_
   rintro r ch9 he;obtain⟨rfl,rfl⟩:=he.zero
   refine LW.nil (AW.b (AW.a 3 ?_))
   refine LW.sA (rep0) szt41 (rep0_one) ?_
   refine LW.nil (AW.b (AW.ts [4] 0 (TW.as ?_)))
   refine TW.nil (AW.d ?_)
   refine NW.go uP 2 rfl ?_
   refine NW.res2 rfl (.cell (rep0) rfl .t zd underlying41 rfl szt41) (.tmp rfl) ⟨_,⟨rfl,c',_,ch,hcp',⟨l,q,d',pc,rc',hr',hfi',hla',hc',rfl⟩,rfl⟩,?_⟩
   simp only [List.append_assoc];exact .s5
 refine AWs.cons rfl ?_ ?_
 . refine LW.alloc zero41 rfl ?_
   intro ba13
   refine LW.nil (AW.b (AW.a 5 ?_))
   refine LW.cT (hdo') cl23 .n2 ?_
   rintro _ _ ⟨rfl,c',rc',ch,hcp',hc',rfl⟩;refine LW.splitA ?_
   refine LW.nil (AW.b (AW.ts [6,7,8] 2 (TW.mv ?_)))
   refine TW.take rfl (Yl.extract rfl rfl) rfl ?_
   refine TW.take rfl (Yl.extract rfl rfl) rfl ?_
   refine TW.nil (AW.a 10 ?_)
   refine LW.sA (rep0) szt41 (rep0_one) ?_
   refine LW.nil (AW.b (AW.ts [11] 0 (TW.as ?_)))
   refine TW.nil (AW.d ?_)
   refine NW.go uP 2 rfl (CW.drawH [cr ba13 41 rep0] mixed ?_)
   refine AW.ts [0,1] 3 (TW.take rfl (Yl.loadAgg (rep0) rfl (by repeat (first | exact List.Mem.head _ | refine List.Mem.tail _ ?_)) zd underlying41 rfl (sze szt41)) rfl ?_)
   refine TW.mv ?_
   refine TW.nil (AW.a 2 ?_)
   refine LW.cT (vdb_at W B .nilIface 0 [] ErrR.none) cl15 ((Take.none _)) ?_
   rintro r ch9 he;obtain⟨rfl,rfl⟩:=he.zero
   refine LW.nil (AW.b (AW.a 3 ?_))
   refine LW.sA (rep0) szt41 (rep0_one) ?_
   refine LW.nil (AW.b (AW.ts [4] 0 (TW.as ?_)))
   refine TW.nil (AW.d ?_)
   refine NW.go uP 2 rfl ?_
   refine NW.res2 rfl (.cell (rep0) rfl .t zd underlying41 rfl szt41) (.tmp rfl) ⟨_,⟨rfl,c',_,ch,hcp',⟨l,q,d',pc,rc',hr',hfi',hla',hc',rfl⟩,rfl⟩,?_⟩
   simp only [List.append_assoc];exact .s5
 exact AWs.nil
end
open Go.RowKit
theorem ErrR.iface {v:Value}{e:Int}{rows:List Row}(h:ErrR v e rows)(he:e≠0):∃ t u,v=.iface t u:=by
 rcases h with ⟨h0,_⟩ | ⟨_,l,hl,rfl,_⟩
 . exact absurd h0 he
 . cases l with
   | nil=>exact absurd rfl hl
   | cons a r=>exact⟨_,_,rfl⟩
section
variable (W:World)(B:Nat)
set_option maxHeartbeats 1000000 in
theorem vdb_Do_no (p pd bn bw bl n:Nat)(g:LogS)(c:CorP)(rows im:List Row)(vv:Value)(o:OpP)(e:Int)(hd:VdbR W B im p pd bn bw bl n g c rows)(hv:VecAt W B im vv o.vec)(hk:o.kind<12)(hne:e≠0)
  (hmay:Spec prog W B 16 [opV vv o] im (fun r post=>r=.bool true/\post=im))
  (hcan:∀ pc rc,CorR W B im pc c rc->Spec prog W B 18 [ptr pc,opV vv o] (rc++im) (fun r post=>∃ ch,ErrR r e ch/\post=ch++(rc++im))) :
  Spec prog W B 8 [ptr p,opV vv o] (rows++im) (fun r post=>∃ v ch,r=.tuple #[.agg rep0.toArray,v]/\ErrR v e ch/\post=ch++(rows++im)):=by
 have hbx:=opV_cells hv o
 have hv1:=hv.one
 obtain⟨l,q,d,pc,rc,hr,hfi,hla,hc,rfl⟩:=hd
 have hcan':=hcan pc rc hc
 refine Spec.eG [[cr p 62 (dbC pd l pc)],logC l q pd g.log,devC pd bn bw bl n d,rc,im] func8 ntmps8 fun w0=>?_
 refine CW.go uP 2 rfl (LW.bx ?_)
 intro bb3
 refine LW.alloc zero41 rfl ?_
 intro ba4
 refine LW.go uP 4 rfl ?_
 rw [hbx]
 refine CW.go uP 2 rfl (LW.load (v:=.int .i64 o.kind) rfl .t (rfl) one3 rfl ?_)
 refine LW.geqF ?_
 refine LW.go uP 8 rfl (LW.pn underlying46 ?_)
 refine LW.go uP 8 rfl (LW.ld one4 ?_)
 refine LW.go uP 13 rfl (LW.lA (opC vv o) underlying32 szt32 ?_)
 refine LW.eG (hmay) cl16 ?_
 refine LW.go uP 17 rfl (CW.drawH [cr p 62 (dbC pd l pc),cr bb3 32 (opC vv o)] mixed ?_)
 refine AW.ts [0,1,2,3,4] 2 (TW.mv ?_)
 refine TW.np ?_
 refine TW.fa fa62_2 ?_
 refine TW.ld one60 ?_
 refine TW.take rfl (Yl.loadAgg (opC vv o) rfl (by repeat (first | exact List.Mem.head _ | refine List.Mem.tail _ ?_)) zd underlying32 rfl (sze szt32)) rfl ?_
 refine TW.nil (AW.a 5 ?_)
 refine LW.cT (hcan') cl18 .n2 ?_
 rintro r _ ⟨ch,hr9,rfl⟩;obtain⟨t9,u9,rfl⟩:=hr9.iface hne;refine LW.splitA (LW.splitB ?_)
 refine LW.nil (AW.b (AW.ts [6] 0 (TW.as ?_)))
 refine TW.nil (AW.d ?_)
 refine NW.go uP 4 rfl (LW.ifaceNotNil _ rfl underlying43 (.inr ⟨⟨_,_,rfl⟩,rfl⟩) rfl ?_)
 refine LW.go uP 5 rfl (LW.build (vs:=[]) (rep0.toArray) trivial (by kernel_rfl) rfl ?_)
 refine LW.go uP 1 rfl (LW.cG (vdb_at W B _ e ch hr9) cl15 ?_)
 rintro r2 ch2 hr2;obtain⟨t2,u2,rfl⟩:=hr2.iface hne
 refine LW.sA (rep0) szt41 (rep0_one) ?_
 refine LW.go uP 5 rfl ?_
 refine NW.res2 rfl (.cell (rep0) rfl .t zd underlying41 rfl szt41) (.tmp rfl) ⟨_,⟨_,ch2,rfl,hr2,rfl⟩,?_⟩
 simp only [List.append_assoc];exact .s6
set_option maxHeartbeats 1000000 in
theorem vdb_Ask (p pd bn bw bl n:Nat)(g:LogS)(c:CorP)(rows im:List Row)(vv:Value)(o:OpP)(hd:VdbR W B im p pd bn bw bl n g c rows)(hv:VecAt W B im vv o.vec)(hk:12<=o.kind)(R:Value->ItemP->Value->Int->List Row->Prop)
   (hmay:Spec prog W B 16 [opV vv o] im (fun r post=>r=.bool true/\post=im))
   (hask:∀ pc rc,CorR W B im pc c rc->Spec prog W B 17 [ptr pc,opV vv o] (rc++im) (fun r post=>∃ u x h n ch,r=.tuple #[repV u x h n,.nilIface]/\u.oneCell'=true/\h.oneCell'=true/\R u x h n ch/\post=ch++(rc++im))) :
   Spec prog W B 8 [ptr p,opV vv o] (rows++im) (fun r post=>∃ u x h n ch,r=.tuple #[repV u x h n,.nilIface]/\R u x h n ch/\post=ch++(rows++im)):=by
 have hbx:=opV_cells hv o
 have hv1:=hv.one
 obtain⟨l,q,d,pc,rc,hr,hfi,hla,hc,rfl⟩:=hd
 have hask':=hask pc rc hc
 refine Spec.eG [[cr p 62 (dbC pd l pc)],logC l q pd g.log,devC pd bn bw bl n d,rc,im] func8 ntmps8 fun w0=>?_
 refine CW.go uP 2 rfl (LW.bx ?_)
 intro bb3
 refine LW.alloc zero41 rfl ?_
 intro ba4
 refine LW.go uP 4 rfl ?_
 rw [hbx]
 refine CW.go uP 2 rfl (LW.load (v:=.int .i64 o.kind) rfl .t (rfl) one3 rfl ?_)
 refine LW.geqT ?_
 refine LW.go uP 8 rfl (LW.pn underlying46 ?_)
 refine LW.go uP 8 rfl (LW.ld one4 ?_)
 refine LW.go uP 13 rfl (LW.lA (opC vv o) underlying32 szt32 ?_)
 refine LW.eG (hmay) cl16 ?_
 refine LW.go uP 13 rfl (CW.drawH [cr p 62 (dbC pd l pc),cr bb3 32 (opC vv o)] mixed ?_)
 refine AW.ts [0,1,2,3,4] 7 (TW.mv ?_)
 refine TW.np ?_
 refine TW.fa fa62_2 ?_
 refine TW.ld one60 ?_
 refine TW.take rfl (Yl.loadAgg (opC vv o) rfl (by repeat (first | exact List.Mem.head _ | refine List.Mem.tail _ ?_)) zd underlying32 rfl (sze szt32)) rfl ?_
 refine TW.nil (AW.all [5,9] (by kernel_rfl) rfl ?_)
 refine AWs.cons rfl ?_ ?_
 . refine LW.cT (hask') cl17 .n2 ?_
   rintro _ _ ⟨u,x,h,cn,ch,rfl,hu1,hh1,hR,rfl⟩;refine LW.splitA (LW.splitB ?_)
   refine LW.nil (AW.b (AW.ts [6,7,8] 3 (TW.mv ?_)))
   refine TW.take rfl (Yl.extract rfl rfl) rfl ?_
   refine TW.take rfl (Yl.extract rfl rfl) rfl ?_
   refine TW.nil (AW.a 9 ?_)
   refine LW.alloc zero41 rfl ?_
   intro ba7
   refine LW.nil (AW.b (AW.a 10 ?_))
   refine LW.sA (repC u x h cn) szt41 (repC_one hu1 x hh1 cn) ?_
   refine LW.nil (AW.b (AW.ts [11] 0 (TW.as ?_)))
   refine TW.nil (AW.d ?_)
   refine NW.go uP 2 rfl (CW.drawH [cr ba7 41 (repC u x h cn)] mixed ?_)
   refine AW.ts [0,1] 3 (TW.take rfl (Yl.loadAgg (repC u x h cn) rfl (by repeat (first | exact List.Mem.head _ | refine List.Mem.tail _ ?_)) zd underlying41 rfl (sze szt41)) rfl ?_)
   refine TW.mv ?_
   refine TW.nil (AW.a 2 ?_)
   refine LW.cT (vdb_at W B .nilIface 0 [] ErrR.none) cl15 ((Take.none _)) ?_
   rintro r ch9 he;obtain⟨rfl,rfl⟩:=he.zero
   refine LW.nil (AW.b (AW.a 3 ?_))
   refine LW.sA (repC u x h cn) szt41 (repC_one hu1 x hh1 cn) ?_
   refine LW.nil (AW.b (AW.ts [4] 0 (TW.as ?_)))
   refine TW.nil (AW.d ?_)
   refine NW.go uP 4 rfl ?_
   refine NW.res2 rfl (.cell (repC u x h cn) rfl .t zd underlying41 rfl szt41) (.tmp rfl) ⟨_,⟨u,x,h,cn,ch,rfl,hR,rfl⟩,?_⟩
   simp only [List.append_assoc];exact .s6
 refine AWs.cons rfl ?_ ?_
 . refine LW.alloc zero41 rfl ?_
   intro ba7
   refine LW.nil (AW.b (AW.a 5 ?_))
   refine LW.cT (hask') cl17 .n2 ?_
   rintro _ _ ⟨u,x,h,cn,ch,rfl,hu1,hh1,hR,rfl⟩;refine LW.splitA (LW.splitB ?_)
   refine LW.nil (AW.b (AW.ts [6,7,8] 2 (TW.mv ?_)))
   refine TW.take rfl (Yl.extract rfl rfl) rfl ?_
   refine TW.take rfl (Yl.extract rfl rfl) rfl ?_
   refine TW.nil (AW.a 10 ?_)
   refine LW.sA (repC u x h cn) szt41 (repC_one hu1 x hh1 cn) ?_
   refine LW.nil (AW.b (AW.ts [11] 0 (TW.as ?_)))
   refine TW.nil (AW.d ?_)
   refine NW.go uP 2 rfl (CW.drawH [cr ba7 41 (repC u x h cn)] mixed ?_)
   refine AW.ts [0,1] 3 (TW.take rfl (Yl.loadAgg (repC u x h cn) rfl (by repeat (first | exact List.Mem.head _ | refine List.Mem.tail _ ?_)) zd underlying41 rfl (sze szt41)) rfl ?_)
   refine TW.mv ?_
   refine TW.nil (AW.a 2 ?_)
   refine LW.cT (vdb_at W B .nilIface 0 [] ErrR.none) cl15 ((Take.none _)) ?_
   rintro r ch9 he;obtain⟨rfl,rfl⟩:=he.zero
   refine LW.nil (AW.b (AW.a 3 ?_))
   refine LW.sA (repC u x h cn) szt41 (repC_one hu1 x hh1 cn) ?_
   refine LW.nil (AW.b (AW.ts [4] 0 (TW.as ?_)))
   refine TW.nil (AW.d ?_)
   refine NW.go uP 4 rfl ?_
   refine NW.res2 rfl (.cell (repC u x h cn) rfl .t zd underlying41 rfl szt41) (.tmp rfl) ⟨_,⟨u,x,h,cn,ch,rfl,hR,rfl⟩,?_⟩
   simp only [List.append_assoc];exact .s6
 exact AWs.nil
end
open Go.RowKit
section
variable (W:World)(B:Nat)
theorem rd_Int (p:Nat)(v:Value)(n:Int)(r:List UInt8)(ch:List Row)(hv:RdS W B v (encZ n++r) ch)(hn:I64 n)(hr:r.length<=900000000):Spec prog W B 115 [ptr p] ([cr p 301 [v,.bool false]]++ch)
  (fun u post=>u=.int .i64 n/\∃ v',RdS W B v' r ch/\post=[cr p 301 [v',.bool false]]++ch):=by
 have hlen:(encZ n++r).length<=1000000000:=by have:=sizeZ_le n;rw [List.length_append,encZ_len];omega
 refine (bin_RInt_some W B p v _ ch hv hlen n (sizeZ n+1) (getZ_enc hn r)).mono fun u post h=>?_
 obtain⟨h1,v',h2,h3⟩:=h
 rw [List.drop_append_of_le_length (by rw [encZ_len];exact Nat.le_refl _),List.drop_eq_nil_of_le (by rw [encZ_len];exact Nat.le_refl _),List.nil_append] at h2
 exact⟨h1,v',h2,h3⟩
theorem rd_Text (p:Nat)(v:Value)(s r:List UInt8)(ch:List Row)(hv:RdS W B v (txt s++r) ch)(most:Int)(hs:(s.length:Int)<=most)(hs2:s.length<=1000)(hr:r.length<=900000000):Spec prog W B 117 [ptr p,.int .i64 most] ([cr p 301 [v,.bool false]]++ch)
   (fun u post=>u=strV s/\∃ v',RdS W B v' r ch/\post=[cr p 301 [v',.bool false]]++ch):=by
 have hI:I64 (s.length:Int):=⟨by omega,by omega⟩
 have hsz:=sizeZ_le (s.length:Int)
 have e:txt s++r=encZ (s.length:Int)++(s++r):=by unfold txt;rw [List.append_assoc]
 have hlen:(txt s++r).length<=1000000000:=by rw [e,List.length_append,encZ_len,List.length_append];omega
 have hd:(txt s++r).drop (sizeZ (s.length:Int)+1)=s++r:=by
   rw [e,List.drop_append_of_le_length (by rw [encZ_len];exact Nat.le_refl _),List.drop_eq_nil_of_le (by rw [encZ_len];exact Nat.le_refl _),List.nil_append]
 refine (bin_RText W B p v _ ch hv hlen (s.length:Int) (sizeZ (s.length:Int)+1) (by rw [e];exact getZ_enc hI _) most).mono fun u post h=>?_
 rw [hd] at h
 rcases h with ⟨h1,_⟩ | ⟨_,h2,v',h3,h4⟩
 . exact absurd ⟨by omega,hs,by rw [List.length_append];omega⟩ h1
 . rw [Int.toNat_natCast,List.take_left] at h2
   rw [Int.toNat_natCast,List.drop_left] at h3
   exact⟨h2,v',h3,h4⟩
theorem req_number (p rp:Nat)(v:Value)(n most:Int)(r:List UInt8)(ch:List Row)(hv:RdS W B v (encZ n++r) ch)(hn:I64 n)(h0:0<=n)(hm:n<=most)(hr:r.length<=900000000) :
  Spec prog W B 118 [ptr p,.int .i64 most] ([cr p 206 [ptr rp,.bool false]]++([cr rp 301 [v,.bool false]]++ch))
   (fun u post=>u=.int .i64 n/\∃ v',RdS W B v' r ch/\post=[cr p 206 [ptr rp,.bool false]]++([cr rp 301 [v',.bool false]]++ch)):=by
 refine Spec.eG [[cr p 206 [ptr rp,.bool false]],[cr rp 301 [v,.bool false]],ch] func118 ntmps118 fun w0=>?_
 refine CW.go uP 10 rfl (LW.ld one203 ?_)
 refine LW.cT (rd_Int W B rp v n r ch hv hn hr) cl115 .n2 ?_
 rintro _ _ ⟨rfl,v',hv',rfl⟩;refine LW.splitA ?_
 refine LW.go uP 9 rfl (LW.ld one4 ?_)
 refine LW.go uP 4 rfl (LW.lssF ?_)
 refine LW.go uP 7 rfl (LW.gtrF ?_)
 refine LW.go uP 3 rfl (LW.sr sz4 ?_)
 refine LW.go uP 9 rfl ?_
 refine NW.r1 ⟨_,⟨rfl,v',hv',rfl⟩,?_⟩
 exact .s3
theorem req_vec (p rp:Nat)(v:Value)(xs:List Int)(r:List UInt8)(ch:List Row)(hv:RdS W B v (encV xs++r) ch)(hx:∀ x∈xs,I32 x)(hm:xs.length<=8)(hr:r.length<=900000000) :
  Spec prog W B 182 [ptr p] ([cr p 206 [ptr rp,.bool false]]++([cr rp 301 [v,.bool false]]++ch))
   (fun u post=>∃ c v',OwnS 21 1 u xs.length (xs.map i32v) c/\RdS W B v' r ch/\post=c++([cr p 206 [ptr rp,.bool false]]++([cr rp 301 [v',.bool false]]++ch))):=by
 refine Spec.eG [[cr p 206 [ptr rp,.bool false]],[cr rp 301 [v,.bool false]],ch] func182 ntmps182 fun w0=>?_
 refine CW.go uP 10 rfl (LW.ld one203 ?_)
 refine LW.cT (vect_Get W B rp v xs r ch hv hx hm hr) cl250 .n2 ?_
 rintro u _ ⟨c,v',ho,hv',rfl,hne⟩;have ho':=ho;rcases ho' with ⟨h9,_⟩ | ⟨b9,cap9,sl9,rfl,_⟩;exact absurd h9 hne;refine LW.splitA (LW.splitB ?_)
 refine LW.go uP 9 rfl (LW.ld one4 ?_)
 refine LW.go uP 4 rfl (LW.sliceNil false rfl underlying25 rfl rfl ?_)
 refine LW.go uP 3 rfl (LW.sr sz4 ?_)
 refine LW.go uP 9 rfl ?_
 refine NW.r1 ⟨_,⟨c,v',ho,hv',rfl⟩,?_⟩
 exact .s4
theorem req_behind1 (p rp po:Nat)(v:Value)(col:Nm)(dim m ix:Int)(ch:List Row)(hv:RdS W B v (encs [dim,m,ix]) ch)(h1:0<=dim/\dim<=1000000)(h2:0<=m/\m<=1000000)(h3:0<=ix/\ix<=1000000) :
  Spec prog W B 119 [ptr p,ptr po] ([cr po 32 (opC nilV (op1 col 0 0 0))]++([cr p 206 [ptr rp,.bool false]]++([cr rp 301 [v,.bool false]]++ch)))
   (fun u post=>u=.tuple #[]/\∃ v',RdS W B v' [] ch/\post=[cr po 32 (opC nilV (op1 col dim m ix))]++([cr p 206 [ptr rp,.bool false]]++([cr rp 301 [v',.bool false]]++ch))):=by
 have e1:encs [dim,m,ix]=encZ dim++(encZ m++(encZ ix++[])):=by simp [encs]
 have l1:=encZ_len m
 have l2:=sizeZ_le m
 have l3:=encZ_len ix
 have l4:=sizeZ_le ix
 rw [e1] at hv
 refine Spec.eG [[cr po 32 (opC nilV (op1 col 0 0 0))],[cr p 206 [ptr rp,.bool false]],[cr rp 301 [v,.bool false]],ch] func119 ntmps119 fun w0=>?_
 refine CW.go uP 5 rfl (LW.load (v:=.int .i64 1) rfl .t (rfl) one3 rfl ?_)
 refine LW.go uP 17 rfl (LW.eqlT ?_)
 refine LW.go uP 13 rfl (LW.cT (req_number W B p rp v dim 1000000 _ ch hv ⟨by omega,by omega⟩ h1.1 h1.2 (by simp only [List.length_append,List.length_nil];omega)) cl118 .n3 ?_)
 rintro _ _ ⟨rfl,v2,hv2,rfl⟩;refine LW.splitA (LW.splitB ?_)
 refine LW.go uP 1 rfl (LW.cT (req_number W B p rp v2 m 1000000 _ ch hv2 ⟨by omega,by omega⟩ h2.1 h2.2 (by simp only [List.length_append,List.length_nil];omega)) cl118 .n3 ?_)
 rintro _ _ ⟨rfl,v3,hv3,rfl⟩;refine LW.splitA (LW.splitB ?_)
 refine LW.go uP 2 rfl (LW.sr sz3 ?_)
 refine LW.go uP 2 rfl (LW.sr sz3 ?_)
 refine LW.go uP 7 rfl (LW.cT (req_number W B p rp v3 ix 1000000 _ ch hv3 ⟨by omega,by omega⟩ h3.1 h3.2 (by decide)) cl118 .n3 ?_)
 rintro _ _ ⟨rfl,v4,hv4,rfl⟩;refine LW.splitA (LW.splitB ?_)
 refine LW.go uP 2 rfl (LW.sr sz3 ?_)
 refine LW.go uP 10 rfl ?_
 refine NW.end0 rfl  ⟨_,⟨rfl,v4,hv4,rfl⟩,?_⟩
 exact .s4
end
end Go.Proofs.YtnlpccoigflheaaGreatDoor
