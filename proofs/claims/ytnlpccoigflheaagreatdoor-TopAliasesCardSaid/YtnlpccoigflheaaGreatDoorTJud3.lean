/- TReq6 TReq7 TVdb3 TJud1 TJud2 TJud3 -/
import Derived.Test.YtnlpccoigflheaaGreatDoorTReq5
import Derived.Test.YtnlpccoigflheaaGreatDoorFac
namespace Go.Proofs.YtnlpccoigflheaaGreatDoor
open Go.RowKit
open Go.Proofs.Tryz
def TuQ:Tbl:=⟨[(32,0,0),(32,1,1),(32,4,4),(32,5,5),(32,6,6),(32,10,10),(36,0,0),(36,4,4),(41,0,0),(41,2,6),(93,3,3),(114,1,1),(206,0,0),(206,1,1)],[52],[65,85,163,210,223]⟩
theorem uQ:TuQ.Ok Tryz.prog:=.of (⟨⟨_,Tryz.underlying65⟩,⟨_,Tryz.underlying85⟩,⟨_,Tryz.underlying163⟩,⟨_,Tryz.underlying210⟩,⟨_,Tryz.underlying223⟩,trivial⟩)
section
variable (W:World)(B:Nat)
set_option maxHeartbeats 1000000 in
theorem req_behind3 (p rp po:Nat)(v:Value)(col:Nm)(id:Int)(vec:List Int)(pay:List UInt8)(draw:Int)(ch:List Row)(hv:RdS W B v (encF (op3 col id vec pay draw)) ch)(h1:0<=id/\id<=1000000)(hvo:VOk vec)(hpl:pay.length<=40)(h2:0<=draw/\draw<4294967296) :
  Spec prog W B 119 [ptr p,ptr po] ([cr po 32 (opC nilV (op3 col 0 [] [] 0))]++([cr p 206 [ptr rp,.bool false]]++([cr rp 301 [v,.bool false]]++ch)))
   (fun u post=>u=.tuple #[]/\∃ uv c v',VecAt W B c uv vec/\RdS W B v' [] ch/\post=c++([cr po 32 (opC uv (op3 col id vec pay draw))]++([cr p 206 [ptr rp,.bool false]]++([cr rp 301 [v',.bool false]]++ch)))):=by
 have e1:encF (op3 col id vec pay draw)=encZ id++(encV vec++(txt pay++(encZ draw++[]))):=by
  show encs [id]++encV vec++txt pay++encs [draw]=_
  simp [encs]
 have l1:=encV_len vec
 have l2:=hvo.1
 have l3:=txt_len pay (by omega)
 have l4:=encZ_len draw
 have l5:=sizeZ_le draw
 rw [e1] at hv
 refine Spec.eG [[cr po 32 (opC nilV (op3 col 0 [] [] 0))],[cr p 206 [ptr rp,.bool false]],[cr rp 301 [v,.bool false]],ch] func119 ntmps119 fun w0=>?_
 refine CW.go uQ 5 rfl (LW.load (v:=.int .i64 3) rfl .t (rfl) one3 rfl ?_)
 refine LW.go uQ 17 rfl (LW.eqlF ?_)
 refine LW.go uQ 9 rfl (LW.eqlF ?_)
 refine LW.go uQ 10 rfl (LW.eqlF ?_)
 refine LW.go uQ 5 rfl (LW.eqlF ?_)
 refine LW.go uQ 9 rfl (LW.eqlT ?_)
 refine LW.go uQ 17 rfl (CW.drawH [cr p 206 [ptr rp,.bool false]] mixed ?_)
 refine AW.ts [0,1,2,3,5,7,8,9,10] 12 (TW.mv ?_)
 refine TW.mv ?_
 refine TW.mv ?_
 refine TW.mv ?_
 refine TW.mv ?_
 refine TW.mv ?_
 refine TW.np ?_
 refine TW.fa fa206_0 ?_
 refine TW.ld one203 ?_
 refine TW.nil (AW.a 4 ?_)
 refine LW.cT (req_number W B p rp v id 1000000 _ ch hv ⟨by omega,by omega⟩ h1.1 h1.2 (by simp only [List.length_append,List.length_nil];omega)) cl118 .n3 ?_
 rintro _ _ ⟨rfl,v2,hv2,rfl⟩;refine LW.splitA (LW.splitB ?_)
 refine LW.nil (AW.b (AW.a 6 ?_))
 refine LW.cT (req_vec W B p rp v2 vec _ ch hv2 (fun x hx=>(hvo.2 x hx).i32) l2 (by simp only [List.length_append,List.length_nil];omega)) cl182 .n3 ?_
 rintro u _ ⟨c,v3,hou,hv3,rfl⟩;obtain⟨A,cp,rfl,_,_⟩:=hou.val;refine LW.splitA (LW.splitB (LW.splitC ?_))
 refine LW.nil (AW.b (AW.a 11 ?_))
 refine LW.cT (rd_Text W B rp v3 pay _ ch hv3 40 (by omega) (by omega) (by simp only [List.length_append,List.length_nil];omega)) cl117 .n2 ?_
 rintro _ _ ⟨rfl,v4,hv4,rfl⟩;refine LW.splitA ?_
 refine LW.nil (AW.b (AW.ts [12,13] 7 (TW.np ?_)))
 refine TW.fa fa32_3 ?_
 refine TW.nil (AW.a 14 ?_)
 refine LW.sr sz3 ?_
 refine LW.nil (AW.b (AW.ts [15,16] 4 (TW.np ?_)))
 refine TW.fa fa32_7 ?_
 refine TW.nil (AW.a 17 ?_)
 refine LW.sr sz25 ?_
 refine LW.nil (AW.b (AW.ts [18,19] 1 (TW.np ?_)))
 refine TW.fa fa32_8 ?_
 refine TW.nil (AW.a 20 ?_)
 refine LW.sr sz9 ?_
 refine LW.nil (AW.b (AW.d ?_))
 refine NW.go uQ 4 rfl (LW.cT (req_number W B p rp v4 draw 4294967295 [] ch hv4 ⟨by omega,by omega⟩ h2.1 (by omega) (by decide)) cl118 .n3 ?_)
 rintro _ _ ⟨rfl,v5,hv5,rfl⟩;refine LW.splitA (LW.splitB ?_)
 refine LW.convInt (draw) rfl underlying3 underlying30 (by rw [wrap_u32];omega) rfl ?_
 refine LW.go uQ 2 rfl (LW.sr sz30 ?_)
 refine LW.go uQ 6 rfl ?_
 refine NW.end0 rfl  ⟨_,⟨rfl,.slice A vec.length cp,c,v5,hou.vec,hv5,rfl⟩,?_⟩
 exact .s5
theorem req_Get1 (rows:List Row)(A:Option Addr)(cp:Nat)(col:Nm)(dim m ix:Int)(ho:OpOk (op1 col dim m ix))(hs:Src W B rows A ((encO (op1 col dim m ix)).map u8v))(hA:A=none->(encO (op1 col dim m ix)).length=0) :
  Spec prog W B 60 [.slice A (encO (op1 col dim m ix)).length cp] rows (fun r post=>r=.tuple #[opV nilV (op1 col dim m ix),.nilIface]/\post=rows):=by
 have hc:col.length<=12:=ho.col
 have hn1:0<=dim/\dim<=1000000:=ho.num dim (by simp [op1,opZ])
 have hn2:0<=m/\m<=1000000:=ho.num m (by simp [op1,opZ])
 have hn3:0<=ix/\ix<=1000000:=ho.num ix (by simp [op1,opZ])
 have e:encO (op1 col dim m ix)=encZ 1++(txt col++encs [dim,m,ix]):=by show encs [1]++(txt col++encs [dim,m,ix])=_;simp [encs]
 have l0:=encZ_len 1
 have l1:=sizeZ_le 1
 have l2:=txt_len col (by omega)
 have l3:=encs_len [dim,m,ix]
 simp only [List.length_cons,List.length_nil] at l3
 have hle:(encO (op1 col dim m ix)).length<=200:=by rw [e];simp only [List.length_append];omega
 refine Spec.eG [rows] func60 ntmps60 fun w0=>?_
 refine CW.go uQ 2 rfl (LW.alloc zero32 rfl ?_)
 intro ba2
 refine LW.go uQ 8 rfl (LW.gtrF ?_)
 refine LW.go uQ 8 rfl (LW.cG (bin_NewReader W B rows A cp (encO (op1 col dim m ix)) hs hA (by omega)) cl114 ?_)
 rintro _ _ ⟨rp,v1,ch,rfl,hv1,rfl⟩;rw [e] at hv1;refine LW.splitA (LW.splitB ?_)
 refine LW.bd [_] (#[ptr rp,.bool false]) ?_
 refine LW.bx ?_
 intro bb15
 refine LW.go uQ 8 rfl (LW.ld one203 ?_)
 refine LW.cT (rd_Int W B rp v1 1 _ ch hv1 ⟨by omega,by omega⟩ (by simp only [List.length_append];omega)) cl115 .n2 ?_
 rintro _ _ ⟨rfl,v2,hv2,rfl⟩;refine LW.splitA ?_
 refine LW.go uQ 10 rfl (LW.ld one203 ?_)
 refine LW.eT (bin_Err W B rp v2 false ch) cl116 .n2 ?_
 refine LW.splitA ?_
 refine LW.neq false rfl rfl (rfl) rfl ?_
 refine LW.go uQ 7 rfl (LW.lssF ?_)
 refine LW.go uQ 4 rfl (LW.gtrF ?_)
 refine LW.go uQ 11 rfl (LW.bd [_] ((opC nilV (opZ 1)).toArray) ?_)
 refine LW.alloc zero32 rfl ?_
 intro ba6
 refine LW.sA (opC nilV (opZ 1)) szt32 (opC_one rfl _) ?_
 refine LW.go uQ 6 rfl (LW.load (v:=.int .i64 1) rfl .t (rfl) one3 rfl ?_)
 refine LW.go uQ 5 rfl (LW.eqlF ?_)
 refine LW.go uQ 6 rfl (LW.eqlF ?_)
 refine LW.go uQ 7 rfl (LW.eqlF ?_)
 refine LW.go uQ 6 rfl (LW.eqlF ?_)
 refine LW.go uQ 6 rfl (LW.eqlF ?_)
 refine LW.go uQ 6 rfl (LW.eqlF ?_)
 refine LW.go uQ 5 rfl (LW.eqlF ?_)
 refine LW.go uQ 9 rfl (LW.ld one203 ?_)
 refine LW.cT (rd_Text W B rp v2 col _ ch hv2 12 (by omega) (by omega) (by omega)) cl117 .n2 ?_
 rintro _ _ ⟨rfl,v3,hv3,rfl⟩;refine LW.splitA ?_
 refine LW.go uQ 1 rfl (LW.sr sz9 ?_)
 refine LW.go uQ 4 rfl (LW.cT (req_behind1 W B bb15 rp ba6 v3 col dim m ix ch hv3 hn1 hn2 hn3) cl119 .n4 ?_)
 rintro _ _ ⟨rfl,v4,hv4,rfl⟩;refine LW.splitA (LW.splitB (LW.splitC ?_))
 refine LW.go uQ 9 rfl (LW.ld one4 ?_)
 refine LW.go uQ 8 rfl (LW.ld one203 ?_)
 refine LW.go uQ 1 rfl (LW.eT (bin_End W B rp v4 false [] ch hv4) cl120 .n2 ?_)
 refine LW.splitA ?_
 refine LW.go uQ 1 rfl (LW.neq false rfl rfl (rfl) rfl ?_)
 refine LW.go uQ 8 rfl (LW.loadAgg (opC nilV (op1 col dim m ix)) rfl .t (fun j v hj=>by show (opC nilV (op1 col dim m ix))[0+j]?=_;rw [Nat.zero_add];exact hj) underlying32 rfl (sze szt32) rfl ?_)
 refine LW.sA (opC nilV (op1 col dim m ix)) szt32 (opC_one rfl _) ?_
 refine LW.go uQ 4 rfl ?_
 refine NW.res2 rfl (.cell (opC nilV (op1 col dim m ix)) rfl .t zd underlying32 rfl szt32) (.tmp rfl) ⟨_,⟨rfl,rfl⟩,?_⟩
 exact (Sub.one .t)
end
open Go.RowKit
section
variable (W:World)(B:Nat)
theorem req_Get3 (rows:List Row)(A:Option Addr)(cp:Nat)(col:Nm)(id:Int)(vec:List Int)(pay:List UInt8)(draw:Int)(ho:OpOk (op3 col id vec pay draw))(hvo:VOk vec)(h2:0<=draw/\draw<4294967296)(hs:Src W B rows A ((encO (op3 col id vec pay draw)).map u8v))(hA:A=none->(encO (op3 col id vec pay draw)).length=0) :
  Spec prog W B 60 [.slice A (encO (op3 col id vec pay draw)).length cp] rows (fun r post=>∃ uv c,r=.tuple #[opV uv (op3 col id vec pay draw),.nilIface]/\VecAt W B c uv vec/\post=c++rows):=by
 have hc:col.length<=12:=ho.col
 have hpl:pay.length<=40:=ho.pay
 have hn1:0<=id/\id<=1000000:=ho.num id (by simp [op3,opZ])
 have e:encO (op3 col id vec pay draw)=encZ 3++(txt col++encF (op3 col id vec pay draw)):=by show encs [3]++(txt col++encF (op3 col id vec pay draw))=_;simp [encs]
 have l0:=encZ_len 3
 have l1:=sizeZ_le 3
 have l2:=txt_len col (by omega)
 have l3:(encF (op3 col id vec pay draw)).length<=220:=by
  have a1:=encs_len [id]
  have a2:=encV_len vec
  have a3:=txt_len pay (by omega)
  have a4:=encs_len [draw]
  have a5:=hvo.1
  simp only [List.length_cons,List.length_nil] at a1 a4
  show (encs [id]++encV vec++txt pay++encs [draw]).length<=220
  simp only [List.length_append]
  omega
 have hle:(encO (op3 col id vec pay draw)).length<=400:=by rw [e];simp only [List.length_append];omega
 refine Spec.eG [rows] func60 ntmps60 fun w0=>?_
 refine CW.go uQ 2 rfl (LW.alloc zero32 rfl ?_)
 intro ba2
 refine LW.go uQ 8 rfl (LW.gtrF ?_)
 refine LW.go uQ 8 rfl (LW.cG (bin_NewReader W B rows A cp (encO (op3 col id vec pay draw)) hs hA (by omega)) cl114 ?_)
 rintro _ _ ⟨rp,v1,ch,rfl,hv1,rfl⟩;rw [e] at hv1;refine LW.splitA (LW.splitB ?_)
 refine LW.bd [_] (#[ptr rp,.bool false]) ?_
 refine LW.bx ?_
 intro bb15
 refine LW.go uQ 8 rfl (LW.ld one203 ?_)
 refine LW.cT (rd_Int W B rp v1 3 _ ch hv1 ⟨by omega,by omega⟩ (by simp only [List.length_append];omega)) cl115 .n2 ?_
 rintro _ _ ⟨rfl,v2,hv2,rfl⟩;refine LW.splitA ?_
 refine LW.go uQ 10 rfl (LW.ld one203 ?_)
 refine LW.eT (bin_Err W B rp v2 false ch) cl116 .n2 ?_
 refine LW.splitA ?_
 refine LW.neq false rfl rfl (rfl) rfl ?_
 refine LW.go uQ 7 rfl (LW.lssF ?_)
 refine LW.go uQ 4 rfl (LW.gtrF ?_)
 refine LW.go uQ 11 rfl (LW.bd [_] ((opC nilV (opZ 3)).toArray) ?_)
 refine LW.alloc zero32 rfl ?_
 intro ba6
 refine LW.sA (opC nilV (opZ 3)) szt32 (opC_one rfl _) ?_
 refine LW.go uQ 6 rfl (LW.load (v:=.int .i64 3) rfl .t (rfl) one3 rfl ?_)
 refine LW.go uQ 5 rfl (LW.eqlF ?_)
 refine LW.go uQ 6 rfl (LW.eqlF ?_)
 refine LW.go uQ 7 rfl (LW.eqlF ?_)
 refine LW.go uQ 6 rfl (LW.eqlF ?_)
 refine LW.go uQ 6 rfl (LW.eqlF ?_)
 refine LW.go uQ 6 rfl (LW.eqlF ?_)
 refine LW.go uQ 5 rfl (LW.eqlF ?_)
 refine LW.go uQ 9 rfl (LW.ld one203 ?_)
 refine LW.cT (rd_Text W B rp v2 col _ ch hv2 12 (by omega) (by omega) (by omega)) cl117 .n2 ?_
 rintro _ _ ⟨rfl,v3,hv3,rfl⟩;refine LW.splitA ?_
 refine LW.go uQ 1 rfl (LW.sr sz9 ?_)
 refine LW.go uQ 4 rfl (LW.cT (req_behind3 W B bb15 rp ba6 v3 col id vec pay draw ch hv3 hn1 hvo hpl h2) cl119 .n4 ?_)
 rintro _ _ ⟨rfl,uv,c,v4,huv,hv4,rfl⟩;obtain⟨A9,cp9,rfl,_⟩:=(fun h=>h) huv;refine LW.splitA (LW.splitB (LW.splitC (LW.splitD ?_)))
 refine LW.go uQ 9 rfl (LW.ld one4 ?_)
 refine LW.go uQ 8 rfl (LW.ld one203 ?_)
 refine LW.go uQ 1 rfl (LW.eT (bin_End W B rp v4 false [] ch hv4) cl120 .n2 ?_)
 refine LW.splitA ?_
 refine LW.go uQ 1 rfl (LW.neq false rfl rfl (rfl) rfl ?_)
 refine LW.go uQ 8 rfl (LW.loadAgg (opC (.slice A9 vec.length cp9) (op3 col id vec pay draw)) rfl .t (fun j v hj=>by show (opC (.slice A9 vec.length cp9) (op3 col id vec pay draw))[0+j]?=_;rw [Nat.zero_add];exact hj) underlying32 rfl (sze szt32) rfl ?_)
 refine LW.sA (opC (.slice A9 vec.length cp9) (op3 col id vec pay draw)) szt32 (opC_one rfl _) ?_
 refine LW.go uQ 4 rfl ?_
 refine NW.res2 rfl (.cell (opC (.slice A9 vec.length cp9) (op3 col id vec pay draw)) rfl .t zd underlying32 rfl szt32) (.tmp rfl) ⟨_,⟨_,c,rfl,huv,rfl⟩,?_⟩
 exact .s2
end
open Go.RowKit
def CorAt (o1 o3:OpP)(k:Nat)(c:CorP):Prop:=
 (k=0->c=CorP.new)/\(k=1->∃ pl,c=createQ (seqP CorP.new) o1 pl)/\(k=2->∃ pl,c=putQ (seqP (createQ (seqP CorP.new) o1 pl)) o3 (colN o1 pl))
section
variable (W:World)(B:Nat)
set_option maxHeartbeats 2000000 in
theorem vdb_Open2 (ht:Tab W B)(p bn bw bl n:Nat)(s:DevS)(hr:Rest n s)(col:Nm)(dim m id:Int)(vec:List Int)(pay:List UInt8)(draw:Int)(sr:Int)(hg:LogS.Fine n ⟨sr,0,0,[encO (op1 col dim m 1),encO (op3 col id vec pay draw)]⟩)(h:LogAt s.N ⟨sr,0,0,[encO (op1 col dim m 1),encO (op3 col id vec pay draw)]⟩)
   (ho1:OpOk (op1 col dim m 1)) (ho3:OpOk (op3 col id vec pay draw)) (hvo:VOk vec) (hdr:0<=draw/\draw<4294967296) (he1:createE CorP.new (op1 col dim m 1)=0) (he3:∀ pl,putE (createQ (seqP CorP.new) (op1 col dim m 1) pl) (op3 col id vec pay draw)=0)
   (hU:∀ pl,usedP (putQ (seqP (createQ (seqP CorP.new) (op1 col dim m 1) pl)) (op3 col id vec pay draw) (colN (op1 col dim m 1) pl))<=64) :
   Spec prog W B 61 [ptr p] (devC p bn bw bl n s) (fun r post=>∃ pv c rows im,r=.tuple #[ptr pv,.nilIface]/\CorAt (op1 col dim m 1) (op3 col id vec pay draw) 2 c/\VdbR W B im pv p bn bw bl n ⟨sr,0,0,[encO (op1 col dim m 1),encO (op3 col id vec pay draw)]⟩ c rows/\post=rows++im):=by
 have hc:col.length<=12:=ho1.col
 have hpl:pay.length<=40:=ho3.pay
 have hvl:=hvo.1
 generalize hg9:(⟨sr,0,0,[encO (op1 col dim m 1),encO (op3 col id vec pay draw)]⟩:LogS)=g at hg h |-
 have hrec:g.recs=[encO (op1 col dim m 1),encO (op3 col id vec pay draw)]:=by rw [<- hg9]
 have har:g.log.area=0:=by rw [<- hg9];rfl
 have hgl:getL n s.N g.log=(0,[]):=by rw [getL,if_pos har]
 refine Spec.eG [devC p bn bw bl n s] func61 ntmps61 fun w0=>?_
 refine CW.go uQ 9 rfl (LW.cG (wal_Open_ok W B p bn bw bl n s hr.ok hg h) cl121 ?_)
 rintro _ _ ⟨l,q,v2,vs,ch,ar,rfl,hov,hra,rfl⟩;rw [hrec] at hov hra;obtain⟨A,cp,rfl,hA,hcp⟩:=hov.val;refine LW.splitA (LW.splitB (LW.splitC ?_))
 refine LW.go uQ 13 rfl (LW.neqF ?_)
 refine LW.go uQ 9 rfl ?_
 refine LW.front (p:=logC l q p g.log) .t (LW.splitA ?_)
 refine LW.cT (snap_Get_at W B l q p bn bw bl n s hr.ok g.log 0 [] hgl) cl122 .n2 ?_
 rintro _ _ ⟨A2,cp2,ch2,rfl,_,_,_,rfl⟩;refine LW.splitA (LW.splitB ?_)
 refine LW.go uQ 11 rfl (LW.neqF ?_)
 refine LW.go uQ 7 rfl (LW.cT (core_New W B) cl27 ((Take.none _)) ?_)
 rintro _ rc ⟨pc,rfl,hcn⟩
 refine LW.go uQ 7 rfl (LW.eG (wal_Area W B l q p g.log) cl123 ?_)
 rw [har]
 refine LW.go uQ 10 rfl (LW.neqF ?_)
 refine LW.go uQ 14 rfl ?_
 refine CW.loopG (fun st:Nat×CorP×List Row×List Row=>[(59,iN st.1),(58,.int .i64 2),(57,.slice A 2 cp),(8,ptr pc),(0,ptr p),(4,ptr l)]) (fun st=>[st.2.2.1,st.2.2.2,ch,ar,[logR l q p g.log],[slC q p g.log.serial g.log.sbad],devC p bn bw bl n s]) (fun st=>st.1<=2/\CorAt (op1 col dim m 1) (op3 col id vec pay draw) st.1 st.2.1/\CorR W B st.2.2.2 pc st.2.1 st.2.2.1) (fun st=>2-st.1) (0,CorP.new,rc,ch2) (by exact⟨Nat.zero_le _,⟨fun _=>rfl,fun h=>(by cases h),fun h=>(by cases h)⟩,hcn _⟩) rfl (by repeat' constructor) ?_
 rintro⟨k,c,rc,im⟩ ⟨hk,hca,hcr⟩;dsimp only at hk hca hcr |-
 refine CW.go uQ 2 rfl (LW.lss (decide ((k:Int)<2)) rfl rfl (rfl) rfl ?_)
 refine LW.go uQ 3 rfl ?_
 refine CW.cond rfl (fun hc60=>?_) (fun hc60=>?_)
 . have hin:k<2:=oT hc60
   obtain⟨a,rfl⟩:∃ x,A=some x:=by cases A with | none=>exact absurd (hA rfl) (by simp) | some x=>exact⟨x,rfl⟩
   have hvs:vs[((k:Nat):Int).toNat*1]?=some (vs.getD k undef):=by have h2:=hra.1;rw [Int.toNat_natCast,Nat.mul_one,List.getD_eq_getElem?_getD,List.getElem?_eq_getElem (by rw [h2];exact hin)];rfl
   refine CW.go uQ 6 rfl (LW.indexAt rfl rfl underlying210 ixs210 (by omega) (by omega) rfl ?_)
   refine LW.loadRd (v:=(vs.getD k undef)) rfl ((hov.src (W:=W) (B:=B)).rd .t) (hvs) one65 rfl ?_
   refine LW.go uQ 5 rfl ?_
   rcases (show k=0\/k=1 by omega) with rfl | rfl
   . obtain⟨A3,cp3,hv3,hs3,hA3,_⟩:=hra.2 0 (by simp)
     rw [hv3]
     rw [hca.1 rfl] at hcr
     refine LW.go uQ 1 rfl (LW.eG (req_Get1 W B ar A3 cp3 col dim m 1 ho1 hs3 hA3) cl60 ?_)
     refine LW.go uQ 3 rfl (LW.alloc zero32 rfl ?_)
     intro ba15
     refine LW.sA (opC nilV (op1 col dim m 1)) szt32 (opC_one rfl _) ?_
     refine LW.go uQ 7 rfl (LW.ifaceNil _ rfl underlying43 (.inl ⟨rfl,rfl⟩) rfl ?_)
     refine LW.go uQ 5 rfl (LW.lA (opC nilV (op1 col dim m 1)) underlying32 szt32 ?_)
     refine LW.cT (core_Do1 W B pc CorP.new rc im nilV (op1 col dim m 1) hcr VecAt.none rfl (by show col.length<=_;omega) he1 rfl (by decide)) cl23 .n2 ?_
     rintro _ _ ⟨rfl,pl,rc',chx,hcx,rfl⟩;refine LW.splitA ?_
     refine LW.go uQ 9 rfl (LW.ifaceNotNil _ rfl underlying43 (.inl ⟨rfl,rfl⟩) rfl ?_)
     refine LW.go uQ 7 rfl (LW.ad ((1:Int)) ?_)
     exact LW.go uQ 2 rfl (NW.mG ((1,createQ (seqP CorP.new) (op1 col dim m 1) pl,rc',chx++im)) (by exact⟨⟨(by show (1:Nat)<=2;omega),⟨fun h=>(by cases h),fun _=>⟨pl,rfl⟩,fun h=>(by cases h)⟩,hcx⟩,(by show 2-1<2-0;omega)⟩))
   . obtain⟨A3,cp3,hv3,hs3,hA3,_⟩:=hra.2 1 (by simp)
     rw [hv3]
     obtain⟨pl,hcpl⟩:=hca.2.1 rfl
     rw [hcpl] at hcr
     refine LW.go uQ 1 rfl (LW.cG (req_Get3 W B ar A3 cp3 col id vec pay draw ho3 hvo hdr hs3 hA3) cl60 ?_)
     rintro _ _ ⟨uv,cV,rfl,huv,rfl⟩;refine LW.splitA ?_
     refine LW.go uQ 3 rfl (LW.alloc zero32 rfl ?_)
     intro ba15
     refine LW.sA (opC uv (op3 col id vec pay draw)) szt32 (opC_one huv.one _) ?_
     refine LW.go uQ 7 rfl (LW.ifaceNil _ rfl underlying43 (.inl ⟨rfl,rfl⟩) rfl ?_)
     refine LW.go uQ 5 rfl (LW.lA (opC uv (op3 col id vec pay draw)) underlying32 szt32 ?_)
     refine LW.cT (core_Do3 W B ht pc (createQ (seqP CorP.new) (op1 col dim m 1) pl) rc (cV++im) uv (op3 col id vec pay draw) (colN (op1 col dim m 1) pl) (hcr.more fun y hy=>List.mem_append_right _ hy) (huv.more fun y hy=>List.mem_append_left _ hy) rfl (he3 pl) (by show aget ([]++[(col,colN (op1 col dim m 1) pl)]) col=_;simp [aget]) (by show (0:Int)+1<1000000000;decide) hdr.1 hdr.2 (hU pl) (by show pay.length<=_;omega) (by show vec.length<=_;omega)) cl23 .n3 ?_
     rintro _ _ ⟨rfl,rc',chx,hcx,rfl⟩;refine LW.splitA ?_
     refine LW.go uQ 9 rfl (LW.ifaceNotNil _ rfl underlying43 (.inl ⟨rfl,rfl⟩) rfl ?_)
     refine LW.go uQ 7 rfl (LW.ad ((2:Int)) ?_)
     exact LW.go uQ 2 rfl (NW.mG ((2,putQ (seqP (createQ (seqP CorP.new) (op1 col dim m 1) pl)) (op3 col id vec pay draw) (colN (op1 col dim m 1) pl),rc',chx++(cV++im))) (by exact⟨⟨(by show (2:Nat)<=2;omega),⟨fun h=>(by cases h),fun h=>(by cases h),fun _=>⟨pl,rfl⟩⟩,hcx⟩,(by show 2-2<2-1;omega)⟩))
 . have hin:k=2:=oF hc60
   subst hin
   refine CW.go uQ 2 rfl (NW.then_exit (NW.go uQ 7 rfl (LW.bd [_,_,_] (#[ptr p,ptr l,ptr pc,.bool false]) ?_)))
   refine LW.bx ?_
   intro bb85
   refine LW.go uQ 5 rfl ?_
   refine NW.ret2 rfl rfl rfl ⟨_,⟨bb85,c,[cr bb85 62 (dbC p l pc)]++(logC l q p g.log++(devC p bn bw bl n s++rc)),im,rfl,hca,⟨l,q,s,pc,rc,hr,hg,h,hcr,rfl⟩,rfl⟩,?_⟩
   unfold logC;simp only [List.append_assoc];exact .s6
end
open Go.RowKit
def JudR0 (p:Nat)(rows:List Row):Prop:=∃ mv av chm cha,OwnMap strV mv ([]:List (Nm×Value)) chm/\OwnMap strV av ([]:List (Nm×Value)) cha/\rows=[cr p 201 [mv,av]]++(chm++cha)
def idsOf (s:StoP):List Int:=((stoItems s).filter fun i=>!i.gone).map (·.id)
section
variable (W:World)(B:Nat)
theorem jud_New:Spec prog W B 59 [] [] (fun r post=>∃ p,r=ptr p/\JudR0 p post):=by
 refine Spec.eG [] func59 ntmps59 fun w0=>?_
 refine CW.go uQ 7 rfl (LW.mapMakeG strV rfl ?_)
 intro mv chm hom;obtain⟨bm,hbm⟩:=hom.shape;subst hbm
 refine LW.mapMakeG strV rfl ?_
 intro av cha hoa;obtain⟨ba,hba⟩:=hoa.shape;subst hba
 refine LW.bd [_,_] (#[.map (some bm),.map (some ba)]) ?_
 refine LW.bx ?_
 intro bb4
 refine LW.go uQ 4 rfl ?_
 refine NW.r1 ⟨_,⟨bb4,rfl,⟨_,_,chm,cha,hom,hoa,rfl⟩⟩,?_⟩
 exact .s3
theorem jud_Bound (n:Nat)(hn:n<=1000000):Spec prog W B 66 [iN n] [] (fun r post=>r=.int .i64 ((n+20:Nat):Int)/\post=[]):=by
 refine Spec.eG [] func66 ntmps66 fun w0=>?_
 refine CW.go uQ 8 rfl (LW.max2 (n:Int) rfl rfl (by split<;>omega) rfl ?_)
 refine LW.ad (((n+20:Nat):Int)) ?_
 refine LW.go uQ 4 rfl ?_
 refine NW.r1 ⟨_,⟨rfl,rfl⟩,?_⟩
 exact Sub.nil _
theorem jud_name1 (b:UInt8):Spec prog W B 303 [u8v b] [] (fun r post=>r=.bool (!letter b)/\post=[]):=by
 have hb:=b.toNat_lt
 by_cases h1:b<97
 . have h1':b.toNat<97:=h1
   refine Spec.eG [] func303 ntmps303 fun w0=>?_
   refine CW.go uQ 8 rfl (LW.lssT ?_)
   refine LW.go uQ 8 rfl ?_
   refine NW.ret1 rfl rfl ⟨_,⟨by simp [letter,h1],rfl⟩,?_⟩
   exact Sub.nil _
 . have h1':¬ b.toNat<97:=h1
   by_cases h2:b>122
   . have h2':122<b.toNat:=h2
     refine Spec.eG [] func303 ntmps303 fun w0=>?_
     refine CW.go uQ 8 rfl (LW.lssF ?_)
     refine LW.go uQ 4 rfl (LW.gtrT ?_)
     refine LW.go uQ 5 rfl ?_
     refine NW.ret1 rfl rfl ⟨_,⟨by simp [letter,h2],rfl⟩,?_⟩
     exact Sub.nil _
   . have h2':¬ 122<b.toNat:=h2
     refine Spec.eG [] func303 ntmps303 fun w0=>?_
     refine CW.go uQ 8 rfl (LW.lssF ?_)
     refine LW.go uQ 4 rfl (LW.gtrF ?_)
     refine LW.go uQ 5 rfl ?_
     refine NW.ret1 rfl rfl ⟨_,⟨by simp [letter,h1,h2],rfl⟩,?_⟩
     exact Sub.nil _
theorem core_Ids (p:Nat)(c:CorP)(rows im:List Row)(s:Nm)(x:ColP)(hc:CorR W B im p c rows)(hax:aget c.cols s=some x) :
   Spec prog W B 132 [ptr p,strV s] (rows++im) (fun r post=>∃ ch,OwnS 3 1 r (idsOf x.s).length ((idsOf x.s).map i64k) ch/\post=ch++(rows++im)):=by
 obtain⟨mv,chm,av,cha,es,cs,h1,h2,h3,rfl,h5⟩:=hc
 obtain⟨i,q,rc,hg,hci,hcr,_⟩:=h2.get hax
 obtain⟨ps,px,rs,rx,hst,hix,rfl,_⟩:=hcr
 have hsl:=hst.ok.2.2
 have hil:=stoItems_len x.s
 refine Spec.eG [[cr p 114 (corC mv av c)],chm,cha,cs.flatten,im] func132 ntmps132 fun w0=>?_
 refine CW.go uQ 9 rfl (LW.pn underlying60 ?_)
 refine LW.go uQ 8 rfl (LW.ld one111 ?_)
 refine LW.go uQ 3 rfl (LW.mapLookG false ( (mget (esC es) s)) rfl rfl keyStr (h1) .t underlying111 underlying9 zero87 (rfl) rfl ?_)
 simp only [hg,Bool.false_eq_true,if_false,Option.getD_some]
 refine LW.go uQ 1 rfl (LW.pn underlying87 ?_)
 refine LW.go uQ 17 rfl (LW.ld one111 ?_)
 refine LW.go uQ 1 rfl (LW.mapLookG false ( (mget (esC es) s)) rfl rfl keyStr (h1) .t underlying111 underlying9 zero87 (rfl) rfl ?_)
 simp only [hg,Bool.false_eq_true,if_false,Option.getD_some]
 refine LW.front (p:=cs.flatten) .t (LW.foc (flat_get hci) (LW.splitA (LW.splitB ?_)))
 refine LW.go uQ 2 rfl (LW.ld one90 ?_)
 refine LW.cT (store_Items W B ps x.s rs im hst) cl79 .n2 ?_
 rintro r _ ⟨its,ch,bag,ho,hit,hiv,rfl⟩;obtain⟨A,cp,rfl,hA,hcp⟩:=ho.val;refine LW.splitA (LW.splitB (LW.splitC ?_))
 have hs1:=ho.src (W:=W) (B:=B)
 have hll:its.length=x.s.length:=by have h9:=congrArg List.length hit;rw [List.length_map,hil] at h9;exact h9
 refine LW.front (p:=(cs.eraseIdx i).flatten) .t (LW.front (p:=[cr q 93 (colC x ps px)]++(rs++rx)) .n3 (LW.unfoc (flat_get hci) ?_))
 refine LW.go uQ 5 rfl ?_
 refine CW.loopG (fun st:Nat×Value×List Row=>[(30,iN st.1),(29,iN its.length),(28,.slice A its.length cp),(5,st.2.1)]) (fun st=>[st.2.2,ch,bag,cs.flatten,[cr p 114 (corC mv av c)],chm,cha,im]) (fun st=>st.1<=its.length/\OwnS 3 1 st.2.1 ((((stoItems x.s).take st.1).filter fun i=>!i.gone).map (·.id)).length (((((stoItems x.s).take st.1).filter fun i=>!i.gone).map (·.id)).map i64k) st.2.2) (fun st=>its.length-st.1) (0,.slice none 0 0,[]) (by exact⟨Nat.zero_le _,OwnS.nil⟩) rfl (by repeat' constructor) ?_
 rintro⟨j,u,c9⟩ ⟨hj,hou⟩;dsimp only at hj hou |-
 refine CW.go uQ 1 rfl (CW.addNil (a:=[]) rfl ?_)
 refine CW.go uQ 1 rfl (LW.lss (decide ((j:Int)<(its.length:Int))) rfl rfl (rfl) rfl ?_)
 refine LW.go uQ 3 rfl ?_
 refine CW.cond rfl (fun hc31=>?_) (fun hc31=>?_)
 . have hin:j<its.length:=oT hc31
   obtain⟨y,hyi,_⟩:=drop_at hin
   obtain⟨a,rfl⟩:∃ x,A=some x:=smA hA
   have hyx:(stoItems x.s)[j]?=some y.2:=by rw [<- hit,List.getElem?_map,hyi];rfl
   have hyv:=hiv y (List.mem_of_getElem? hyi)
   have hsn:((stoItems x.s).take (j+1)).filter (fun i=>!i.gone)=((stoItems x.s).take j).filter (fun i=>!i.gone)++(if y.2.gone=false then [y.2] else []):=by rw [List.take_add_one,hyx,List.filter_append];congr 1;simp only [Option.toList_some,List.filter_cons,List.filter_nil];cases y.2.gone<;>rfl
   have hll9:(((stoItems x.s).take j).filter fun i=>!i.gone).length<=1000:=by have a1:=List.length_filter_le (fun i:ItemP=>!i.gone) ((stoItems x.s).take j);rw [List.length_take] at a1;omega
   refine CW.go uQ 6 rfl (LW.indexAt rfl rfl underlying163 ixs163 (by omega) (by omega) rfl ?_)
   refine LW.loadAggRd (itemC y.1 y.2) rfl (hs1.rd .t) (by show (0:Nat)<5;decide) (by rw [Int.toNat_natCast];exact itsC_at hyi) underlying36 rfl szt36 rfl ?_
   refine LW.alloc zero36 rfl ?_
   intro ba7
   refine LW.sA (itemC y.1 y.2) szt36 (itemC_one hyv.one y.2) ?_
   refine LW.go uQ 5 rfl (LW.load (v:=.bool y.2.gone) rfl .t (rfl) one4 rfl ?_)
   refine LW.go uQ 3 rfl ?_
   refine CW.cond rfl (fun hc36=>?_) (fun hc36=>?_)
   . have hgn:y.2.gone=false:=by simpa using hc36
     rw [if_pos hgn] at hsn
     refine CW.go uQ 3 rfl (LW.load (v:=.int .i64 y.2.id) rfl .t (rfl) one3 rfl ?_)
     refine LW.bs [_] underlying85 info3 ?_
     intro bs40
     refine LW.append ([.int .i64 y.2.id]) rfl rfl underlying85 underlying85 (.inr ⟨_,rfl⟩) info3 rfl (hou) .t (fun _=>by obtain⟨A7,cp7,he7,_⟩:=hou.val;exact lenOf_slice _ _ _ _) (first_rd (RdAt.row .t (fun j v hj=>by simpa using hj)) rfl (fun h=>by cases h)) (rfl) (by intro u hu;simp at hu;subst hu;rfl) (by rw [List.length_map];omega) (by rw [List.length_map];omega) rfl ?_
     intro v' ch' ho'
     refine LW.go uQ 5 rfl (LW.ad ((j+1:Int)) ?_)
     exact LW.go uQ 2 rfl (NW.mG ((j+1,v',ch')) (by exact⟨⟨by omega,by dsimp only;rw [hsn,List.map_append,List.length_append,List.map_append];exact ho'⟩,by dsimp only;omega⟩))
   . have hgn:y.2.gone=true:=by simpa using hc36
     rw [if_neg (by rw [hgn];decide),List.append_nil] at hsn
     refine CW.go uQ 4 rfl (LW.ad ((j+1:Int)) ?_)
     exact LW.go uQ 2 rfl (NW.mG ((j+1,u,c9)) (by exact⟨⟨by omega,by dsimp only;rw [hsn];exact hou⟩,by dsimp only;omega⟩))
 . have hin:j=its.length:=oF hc31
   rw [hin,List.take_of_length_le (by omega)] at hou
   refine CW.go uQ 2 rfl (NW.then_exit (NW.go uQ 9 rfl ?_))
   refine NW.r1 ⟨_,⟨c9,hou,rfl⟩,?_⟩
   simp only [List.append_assoc];exact .s6
end
open Go.RowKit
section
variable (W:World)(B:Nat)
theorem jud_create (p:Nat)(rows:List Row)(vv:Value)(o:OpP)(hj:JudR0 p rows)(hv:VecAt W B [] vv o.vec)(hn:Spec prog W B 256 [strV o.col] [] (fun r post=>r=.bool true/\post=[]))(hd1:1<=o.dim)(hd8:o.dim<=8)(hm:MetOk o.metric)(h1:1<=o.index)(h4:o.index<=4) :
  Spec prog W B 195 [ptr p,opV vv o] rows (fun r post=>r=.int .i64 0/\post=[]):=by
 have hbx:=opV_cells hv o
 obtain⟨mv,av,chm,cha,hom,hoa,rfl⟩:=hj
 have hkn:(decide (o.metric=1) || decide (o.metric=2))=true:=by rcases hm with h | h<;>rw [h]<;>rfl
 refine Spec.eG [[cr p 201 [mv,av]],chm,cha] func195 ntmps195 fun w0=>?_
 refine CW.go uQ 2 rfl (LW.bx ?_)
 intro bb3
 refine LW.go uQ 4 rfl ?_
 rw [hbx]
 refine CW.drawH [cr p 201 [mv,av],cr bb3 32 (opC vv o)] mixed ?_
 refine AW.ts [0,1,2,3,4,5] 6 (TW.mv ?_)
 refine TW.np ?_
 refine TW.fa fa201_1 ?_
 refine TW.ld one34 ?_
 refine TW.fa fa32_1 ?_
 refine TW.ld one9 ?_
 refine TW.nil (AW.a 6 ?_)
 refine LW.mapLookG true ( none) rfl rfl keyStr (hoa) .t underlying34 underlying9 zero9 (rfl) rfl ?_
 simp only [if_true,Option.getD_none,Option.isSome_none]
 refine LW.nil (AW.b (AW.ts [7,8,9,10,11] 0 (TW.mv ?_)))
 refine TW.take rfl (Yl.extract rfl rfl) rfl ?_
 refine TW.take rfl (Yl.extract rfl rfl) rfl ?_
 refine TW.as ?_
 refine TW.as ?_
 refine TW.nil (AW.d ?_)
 refine NW.go uQ 6 rfl (LW.ld one9 ?_)
 refine LW.eT (hn) cl256 ((Take.none _)) ?_
 refine LW.go uQ 6 rfl (CW.drawH [cr p 201 [mv,av],cr bb3 32 (opC vv o)] mixed ?_)
 refine AW.ts [0,1,2,3,4,5] 6 (TW.mv ?_)
 refine TW.np ?_
 refine TW.fa fa201_0 ?_
 refine TW.ld one199 ?_
 refine TW.fa fa32_1 ?_
 refine TW.ld one9 ?_
 refine TW.nil (AW.a 6 ?_)
 refine LW.mapLookG false ( none) rfl rfl keyStr (hom) .t underlying199 underlying9 zero311 (rfl) rfl ?_
 simp only [Bool.false_eq_true,if_false,Option.getD_none]
 refine LW.nil (AW.b (AW.ts [7,8,9,10,11] 0 (TW.take rfl (Yl.ptrNotNil false rfl underlying311 rfl) rfl ?_)))
 refine TW.mv ?_
 refine TW.on 31 rfl rfl rfl (Yl.move rfl) rfl ?_
 refine TW.take rfl (Yl.pickF rfl rfl) rfl ?_
 refine TW.as ?_
 refine TW.nil (AW.d ?_)
 refine NW.go uQ 5 rfl (LW.ld one3 ?_)
 refine LW.lssF ?_
 refine LW.go uQ 4 rfl (LW.ld one3 ?_)
 refine LW.go uQ 1 rfl (LW.gtrF ?_)
 refine LW.go uQ 8 rfl (LW.ld one3 ?_)
 refine LW.eT (metric_Known W B o.metric) cl153 ((Take.none _)) ?_
 rw [hkn]
 refine LW.go uQ 5 rfl (LW.ld one3 ?_)
 refine LW.go uQ 1 rfl (LW.lssF ?_)
 refine LW.go uQ 5 rfl (LW.ld one3 ?_)
 refine LW.go uQ 1 rfl (LW.gtrF ?_)
 refine LW.go uQ 9 rfl (CW.drawH [cr p 201 [mv,av],cr bb3 32 (opC vv o)] mixed ?_)
 refine AW.ts [0,1,2,3,4,5,6,7] 4 (TW.mv ?_)
 refine TW.np ?_
 refine TW.fa fa201_0 ?_
 refine TW.ld one199 ?_
 refine TW.fa fa32_1 ?_
 refine TW.ld one9 ?_
 refine TW.fa fa32_4 ?_
 refine TW.ld one3 ?_
 refine TW.nil (AW.a 8 ?_)
 refine LW.mapMakeG i64k rfl ?_
 intro iv chi hoi;obtain⟨bi,hbi⟩:=hoi.shape;subst hbi
 refine LW.nil (AW.b (AW.ts [9] 2 (TW.take rfl (Yl.build (vs:=[_,_]) (#[.int .i64 o.dim,.map (some bi)]) ⟨rfl,rfl,trivial⟩ (by kernel_rfl)) rfl ?_)))
 refine TW.nil (AW.a 10 ?_)
 refine LW.bx ?_
 intro bb68
 refine LW.nil (AW.b (AW.a 11 ?_))
 refine LW.mapSetG rfl rfl rfl keyStr (hom) .t underlying199 underlying9 ?_
 intro chm' hom'
 refine LW.nil (AW.b (AW.d ?_))
 refine NW.go uQ 7 rfl ?_
 refine NW.r1 ⟨_,⟨rfl,rfl⟩,?_⟩
 exact Sub.nil _
theorem jud_does (p:Nat)(rows:List Row)(vv:Value)(o:OpP)(hk:o.kind=1)(hv:VecAt W B [] vv o.vec)(h:Spec prog W B 195 [ptr p,opV vv o] rows (fun r post=>r=.int .i64 0/\post=[])) :
  Spec prog W B 128 [ptr p,opV vv o] rows (fun r post=>r=.int .i64 0/\post=[]):=by
 have hbx:=opV_cells hv o
 have hv1:=hv.one
 refine Spec.eG [rows] func128 ntmps128 fun w0=>?_
 refine CW.go uQ 2 rfl (LW.bx ?_)
 intro bb3
 refine LW.go uQ 5 rfl ?_
 rw [hbx]
 refine CW.go uQ 2 rfl (LW.load (v:=.int .i64 1) rfl .t (by rw [<- hk];rfl) one3 rfl ?_)
 refine LW.go uQ 5 rfl (LW.eqlT ?_)
 refine LW.go uQ 7 rfl (LW.lA (opC vv o) underlying32 szt32 ?_)
 refine LW.eG (h) cl195 ?_
 refine LW.go uQ 6 rfl ?_
 refine NW.r1 ⟨_,⟨rfl,rfl⟩,?_⟩
 exact Sub.nil _
theorem jud_Do (p:Nat)(rows:List Row)(vv:Value)(o:OpP)(hk:o.kind=1)(hv:VecAt W B [] vv o.vec)(hmay:Spec prog W B 16 [opV vv o] [] (fun r post=>r=.bool true/\post=[]))(h:Spec prog W B 128 [ptr p,opV vv o] rows (fun r post=>r=.int .i64 0/\post=[]))(hcode:Spec prog W B 10 [.nilIface] [] (fun r post=>r=.int .i64 0/\post=[])) :
  Spec prog W B 63 [ptr p,opV vv o,.nilIface] rows (fun r post=>r=.tuple #[.agg (itemC nilV ItemP.none).toArray,.int .i64 0,.nilIface]/\post=[]):=by
 have hbx:=opV_cells hv o
 have hv1:=hv.one
 refine Spec.eG [rows] func63 ntmps63 fun w0=>?_
 refine CW.go uQ 2 rfl (LW.bx ?_)
 intro bb4
 refine LW.alloc zero36 rfl ?_
 intro ba6
 refine LW.go uQ 6 rfl ?_
 rw [hbx]
 refine CW.go uQ 2 rfl (LW.pn underlying135 ?_)
 refine LW.go uQ 8 rfl (LW.eT (hcode) cl10 ((Take.none _)) ?_)
 refine LW.go uQ 7 rfl (LW.lA (opC vv o) underlying32 szt32 ?_)
 refine LW.eT (hmay) cl16 ((Take.none _)) ?_
 refine LW.go uQ 8 rfl (LW.ifaceNotNil _ rfl underlying43 (.inl ⟨rfl,rfl⟩) rfl ?_)
 refine LW.go uQ 11 rfl (LW.load (v:=.int .i64 1) rfl .t (by rw [<- hk];rfl) one3 rfl ?_)
 refine LW.eqlF ?_
 refine LW.go uQ 4 rfl (LW.load (v:=.int .i64 1) rfl .t (by rw [<- hk];rfl) one3 rfl ?_)
 refine LW.go uQ 1 rfl (LW.eqlF ?_)
 refine LW.go uQ 7 rfl (LW.lA (opC vv o) underlying32 szt32 ?_)
 refine LW.eG (h) cl128 ?_
 refine LW.go uQ 6 rfl (LW.build (vs:=[]) ((itemC nilV ItemP.none).toArray) trivial (by kernel_rfl) rfl ?_)
 refine LW.go uQ 2 rfl (LW.cT (fail_AtN W B [106,117,100,103,101] 0) cl28 ((Take.none _)) ?_)
 rintro r ch9 he;obtain⟨rfl,rfl⟩:=he.zero
 refine LW.sA (itemC nilV ItemP.none) szt36 (itemC_one rfl ItemP.none) ?_
 refine LW.go uQ 5 rfl ?_
 refine NW.res3 rfl (.cell (itemC nilV ItemP.none) rfl .t zd underlying36 rfl szt36) (.tmp rfl) (.tmp rfl) ⟨_,⟨rfl,rfl⟩,?_⟩
 exact Sub.nil _
end
open Go.RowKit
section
variable (W:World)(B:Nat)
set_option maxHeartbeats 1000000 in
theorem jud_Whole (p:Nat)(c:CorP)(rows im:List Row)(s:Nm)(x:ColP)(hc:CorR W B im p c rows)(hax:aget c.cols s=some x)(hids:∀ id∈idsOf x.s,∃ it,stoGet x.s id=some it/\it.id=id)(hil:(idsOf x.s).length<=1000)
   (hnm:Spec prog W B 131 [ptr p] rows (fun r post=>∃ ch,OwnS 9 1 r 1 [strV s] ch/\post=ch++rows)) :
   Spec prog W B 65 [ptr p] (rows++im) (fun r post=>r=.bool true/\post=rows++im):=by
 have hf:findP c s=some x:=by unfold findP;rw [hax]
 have hsl:stoLen x.s=(idsOf x.s).length:=by unfold idsOf stoLen;rw [List.length_map]
 refine Spec.eG [rows,im] func65 ntmps65 fun w0=>?_
 refine CW.go uQ 9 rfl (LW.pn underlying60 ?_)
 refine LW.go uQ 4 rfl (LW.eT (core_Free W B p c rows im hc) cl130 .n2 ?_)
 refine LW.splitA ?_
 refine LW.go uQ 1 rfl (LW.lssF ?_)
 refine LW.go uQ 10 rfl (LW.cG (hnm) cl131 ?_)
 rintro _ _ ⟨ch,ho9,rfl⟩;refine LW.splitA ?_;rcases ho9 with ⟨_,z0,_,_⟩ | ⟨b,cap9,sl9,rfl,_,_,_,rfl⟩;cases z0
 refine LW.go uQ 5 rfl ?_
 refine CW.loopG (fun i:Nat=>[(22,iN i),(21,.int .i64 1),(20,.slice (sA b) 1 cap9),(0,ptr p)]) (fun _=>[[cr b 9 ([strV s]++sl9)],rows,im]) (fun i=>i<=1) (fun i=>1-i) 0 (by exact Nat.zero_le _) rfl (by repeat' constructor) ?_
 rintro i hi
 refine CW.go uQ 2 rfl (LW.lss (decide ((i:Int)<1)) rfl rfl (rfl) rfl ?_)
 refine LW.go uQ 3 rfl ?_
 refine CW.cond rfl (fun hc23=>?_) (fun hc23=>?_)
 . have hin:i=0:=oT hc23
   subst hin
   refine CW.go uQ 6 rfl (LW.indexAddr (0) rfl rfl underlying223 ixs223 (by decide) (by decide) (rfl) rfl ?_)
   refine LW.load (v:=strV s) rfl .t (rfl) one9 rfl ?_
   refine LW.go uQ 7 rfl (LW.cT (core_Ids W B p c rows im s x hc hax) cl132 .n2 ?_)
   rintro _ _ ⟨ch5,ho5,rfl⟩;obtain⟨A5,cp5,rfl,hA5,hcp5⟩:=ho5.val;refine LW.splitA (LW.splitB ?_)
   have hs5:=ho5.src (W:=W) (B:=B)
   refine LW.go uQ 7 rfl (LW.bd [_,_] ((opC nilV { opZ 15 with col:=s }).toArray) ?_)
   refine LW.eT (core_Ask15 W B p c rows im nilV { opZ 15 with col:=s } x hc VecAt.none rfl hf) cl17 .n2 ?_
   refine LW.splitA ?_
   refine LW.go uQ 3 rfl (LW.alloc zero41 rfl ?_)
   intro ba6
   refine LW.sA (repC (.slice none 0 0) ItemP.none (.slice none 0 0) (stoLen x.s:Int)) szt41 (repC_one rfl _ rfl _) ?_
   refine LW.go uQ 7 rfl (LW.ifaceNotNil _ rfl underlying43 (.inl ⟨rfl,rfl⟩) rfl ?_)
   refine LW.go uQ 4 rfl (LW.load (v:=.int .i64 (stoLen x.s:Int)) rfl .t (rfl) one3 rfl ?_)
   refine LW.go uQ 5 rfl (LW.neq false rfl rfl (bne_eq_false_iff_eq.2 (by rw [hsl])) rfl ?_)
   refine LW.go uQ 14 rfl ?_
   refine CW.loopG (fun j:Nat=>[(47,iN j),(46,.int .i64 ((idsOf x.s).length:Int)),(45,.slice A5 (idsOf x.s).length cp5),(4,strV s),(0,ptr p),(22,.int .i64 ((0:Nat):Int)),(21,.int .i64 1),(20,.slice (sA b) 1 cap9)]) (fun _=>[ch5,[cr b 9 ([strV s]++sl9)],rows,im]) (fun j=>j<=(idsOf x.s).length) (fun j=>(idsOf x.s).length-j) 0 (by exact Nat.zero_le _) rfl (by repeat' constructor) ?_
   rintro j hj
   refine CW.go uQ 2 rfl (LW.lss (decide ((j:Int)<((idsOf x.s).length:Int))) rfl rfl (rfl) rfl ?_)
   refine LW.go uQ 3 rfl ?_
   refine CW.cond rfl (fun hc48=>?_) (fun hc48=>?_)
   . have hjn:j<(idsOf x.s).length:=oT hc48
     obtain⟨id,hidj,_⟩:=drop_at hjn
     obtain⟨it,hgt,hit⟩:=hids id (List.mem_of_getElem? hidj)
     obtain⟨a5,rfl⟩:∃ x,A5=some x:=smA hA5
     refine CW.go uQ 6 rfl (LW.indexAt rfl rfl underlying85 ixs85 (by omega) (by omega) rfl ?_)
     refine LW.loadRd (v:=.int .i64 id) rfl (hs5.rd .t) (i64k_at hidj) one3 rfl ?_
     refine LW.go uQ 8 rfl (LW.bd [_,_,_] ((opC nilV (op12 s id)).toArray) ?_)
     refine LW.cT (core_Ask12 W B p c rows im nilV (op12 s id) x it hc VecAt.none rfl hf hgt) cl17 .n2 ?_
     rintro _ _ ⟨u,ch6,rfl,hu,rfl⟩;refine LW.splitA (LW.splitB ?_)
     refine LW.go uQ 3 rfl (LW.alloc zero41 rfl ?_)
     intro ba10
     refine LW.sA (repC u it (.slice none 0 0) 0) szt41 (repC_one hu.one _ rfl _) ?_
     refine LW.go uQ 6 rfl (LW.ifaceNotNil _ rfl underlying43 (.inl ⟨rfl,rfl⟩) rfl ?_)
     refine LW.go uQ 6 rfl (LW.load (v:=.int .i64 it.id) rfl .t (rfl) one3 rfl ?_)
     refine LW.go uQ 3 rfl (LW.neq false rfl rfl (bne_eq_false_iff_eq.2 hit) rfl ?_)
     refine LW.go uQ 8 rfl (LW.ad ((j+1:Int)) ?_)
     exact LW.go uQ 2 rfl (NW.mG (j+1) (by exact⟨by omega,by omega⟩))
   . refine CW.go uQ 2 rfl (NW.then_exit (NW.go uQ 4 rfl (LW.ad (((1:Nat):Int)) ?_)))
     exact LW.go uQ 2 rfl (NW.mG (1) (by exact⟨Nat.le_refl _,by omega⟩))
 . refine CW.go uQ 2 rfl (NW.then_exit (NW.go uQ 8 rfl ?_))
   refine NW.r1 ⟨_,⟨rfl,rfl⟩,?_⟩
   exact .s2
end
end Go.Proofs.YtnlpccoigflheaaGreatDoor
