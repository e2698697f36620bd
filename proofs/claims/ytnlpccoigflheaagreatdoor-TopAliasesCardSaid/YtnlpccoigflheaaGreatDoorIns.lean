/- Rdr Ins -/
import Derived.Test.YtnlpccoigflheaaGreatDoorErrF
import Derived.Test.YtnlpccoigflheaaGreatDoorSlotDef
import Derived.Lib.Overlaps
import Derived.Test.YtnlpccoigflheaaGreatDoorFac
namespace Go.Proofs.YtnlpccoigflheaaGreatDoor
open Go.RowKit
open Go.Proofs.Tryz
def RdQ (W:World)(B:Nat)(v:Value)(r:List UInt8×Bool)(ch:List Row):Prop:=r.2=false->RdS W B v r.1 ch
section
variable (W:World)(B:Nat)
theorem bin_RIntQ (p:Nat)(v:Value)(r:List UInt8×Bool)(ch:List Row)(hv:RdQ W B v r ch)(hlen:r.1.length<=1000000000)(m:Int)(r':List UInt8×Bool)(h:rdI r=(m,r')) :
   Spec prog W B 115 [.pointer (some ⟨p,0,none⟩)] ([cr p 301 [v,.bool r.2]]++ch)
    (fun x post=>x=.int .i64 m/\∃ v',RdQ W B v' r' ch/\post=[cr p 301 [v',.bool r'.2]]++ch):=by
 obtain⟨bs,bad⟩:=r
 cases bad
 . cases hg:getZ bs with
   | none=>
    simp only [rdI,Bool.false_eq_true,if_false,hg,Prod.mk.injEq] at h
    obtain⟨rfl,rfl⟩:=h
    refine (bin_RInt_none W B p v bs ch (hv rfl) hlen hg).mono ?_
    rintro x post ⟨rfl,rfl⟩
    exact⟨rfl,v,fun h=>(by cases h),rfl⟩
   | some q=>
    obtain⟨n,k⟩:=q
    simp only [rdI,Bool.false_eq_true,if_false,hg,Prod.mk.injEq] at h
    obtain⟨rfl,rfl⟩:=h
    refine (bin_RInt_some W B p v bs ch (hv rfl) hlen n k hg).mono ?_
    rintro x post ⟨rfl,v',hs,rfl⟩
    exact⟨rfl,v',fun _=>hs,rfl⟩
 . simp only [rdI,if_true,Prod.mk.injEq] at h
   obtain⟨rfl,rfl⟩:=h
   refine (bin_RInt_bad W B p v ch).mono ?_
   rintro x post ⟨rfl,rfl⟩
   exact⟨rfl,v,fun h=>(by cases h),rfl⟩
end
theorem rdI_len {r r':List UInt8×Bool}{m:Int}(h:rdI r=(m,r')):r'.1.length<=r.1.length:=by
 unfold rdI at h
 split at h
 . simp only [Prod.mk.injEq] at h;rw [<- h.2];exact Nat.le_refl _
 . split at h
   . simp only [Prod.mk.injEq] at h;rw [<- h.2];exact Nat.le_refl _
   . simp only [Prod.mk.injEq] at h;rw [<- h.2];simp
theorem rdN_succ:∀ (k:Nat) (r:List UInt8×Bool),rdN (k+1) r=((rdN k r).1++[(rdI (rdN k r).2).1],(rdI (rdN k r).2).2)
 | 0,r=>by simp [rdN]
 | k+1,r=>by
  have ih:=rdN_succ k (rdI r).2
  rw [show rdN (k+1+1) r=((rdI r).1::(rdN (k+1) (rdI r).2).1,(rdN (k+1) (rdI r).2).2) from rfl,ih]
  simp [rdN]
theorem rdN_len:∀ (k:Nat) (r:List UInt8×Bool),(rdN k r).1.length=k
 | 0,r=>rfl
 | k+1,r=>by simp [rdN,rdN_len k]
theorem rdN_left:∀ (k:Nat) (r:List UInt8×Bool),(rdN k r).2.1.length<=r.1.length
 | 0,r=>Nat.le_refl _
 | k+1,r=>Nat.le_trans (rdN_left k (rdI r).2) (rdI_len (m:=(rdI r).1) rfl)
section
variable {P:Program}{n:Nat}{c:Ctx}{Q:Exit->Act->World->Prop}{e:Env}{h:Heap}{ops:Array Oper}{rest:List Oper}
theorem run_append_fitZ {w:World}{t t2 ty el m k cap:Nat}{kk kx:IntKind}{base:Option Addr}{z:Value}{i:TypeInfo}(ht:P.underlying t=some (.slice el))(ht2:P.underlying t2=some (.int kk))
  (hi:P.info? el=some i) (hz:i.zero=some z) (hk:0<k) (hs:0<i.size) (hw:IntKind.i64.wrap (k:Int)=(k:Int)) (h48:k*i.bytes<=281474976710656) (hfit:m+k<=cap) :
  (Builtin.append_ #[t,t2] ty #[.slice base m cap,.int kx (k:Int)]).run P w=(match base with
   | some a=>((storeCells (a.add (m*i.size)) (Builtin.zeroCells z.cells k).toList).run P w).andThen fun _ w'=>.ok (.slice base (m+k) cap) w'
   | none=>.ok (.slice base (m+k) cap) w):=by
 have h0:¬ ((k:Int)<0):=by omega
 have hks:¬ (k*i.size=0):=Nat.ne_of_gt (Nat.mul_pos hk hs)
 have h48':¬ (281474976710656<(k:Int)*(i.bytes:Int)):=by rw [<- Int.natCast_mul];omega
 cases base<;>simp [Builtin.append_,run_underlying ht,run_underlying ht2,sizeOf,typeInfo,zeroValue,hi,hz,asInt,asIntOf,hw,h0,h48',hks,hfit]
theorem run_append_newZ {w:World}{t t2 ty el m k cap:Nat}{kk kx:IntKind}{base:Option Addr}{z:Value}{xs:List Value}{i:TypeInfo}(ht:P.underlying t=some (.slice el))(ht2:P.underlying t2=some (.int kk))
  (hi:P.info? el=some i) (hz:i.zero=some z) (hk:0<k) (hs:0<i.size) (hw:IntKind.i64.wrap (k:Int)=(k:Int)) (h48:k*i.bytes<=281474976710656)
  (hf0:(Builtin.firstCells i.size m (.slice base m cap)).run P w.drew=.ok xs.toArray w.drew) (hnofit:cap<m+k) (h63:m+k<=9223372036854775807) (h48n:Builtin.nextslicecap (m+k) cap*i.bytes<=281474976710656) :
  (Builtin.append_ #[t,t2] ty #[.slice base m cap,.int kx (k:Int)]).run P w=.ok (.slice (some ⟨w.heap.size,0,none⟩) (m+k) (grownCap w (m+k) cap el))
   (w.drew.alloc (.cells (xs.toArray++Builtin.zeroCells z.cells k++Builtin.zeroCells z.cells (grownCap w (m+k) cap el-(m+k))) el)):=by
 have h0:¬ ((k:Int)<0):=by omega
 have hks:¬ (k*i.size=0):=Nat.ne_of_gt (Nat.mul_pos hk hs)
 have h48':¬ (281474976710656<(k:Int)*(i.bytes:Int)):=by rw [<- Int.natCast_mul];omega
 have hn:¬ (m+k<=cap):=by omega
 have h63':¬ (9223372036854775807<((m:Int)+(k:Int))):=by omega
 have h48n':¬ (281474976710656<Builtin.nextslicecap (m+k) cap*i.bytes):=by omega
 simp [Builtin.append_,run_underlying ht,run_underlying ht2,sizeOf,typeInfo,zeroValue,hi,hz,asInt,asIntOf,hw,h0,h48',hks,hn,h63',h48n',Question.forced,hf0,newRow,grownCap]
theorem LW.appendZ {d ty t t2 el by_ m k:Nat}{pos:String}{af:Array Edge}{x y:Operand}{kk kx:IntKind}{v z:Value}{xs:List Value}{ch:List Row}{h':Heap}(hx:e.ev x=some v)(hy:e.ev y=some (.int kx (k:Int)))(ht:P.underlying t=some (.slice el))(ht2:P.underlying t2=some (.int kk))
  (hi:(P.info? el).map (fun i=>(i.zero,i.size,i.bytes))=some (some z,1,by_)) (hz1:z.cells.toList=[z]) (h1:z.oneCell'=true) (o:OwnS el 1 v m xs ch) (tk:Take ch h h') (hk:0<k) (h63:m+k<=1000000000) (hb:(m+k)*by_<=140737488355328) (hd:Nat.blt d n=true)
  (kont:∀ v' ch',OwnS el 1 v' (m+k) (xs++List.replicate k z) ch'->LW P n c ops Q rest ((d,v')::e) (ch'::h')) :
  LW P n c ops Q (⟨some d,.call { callee:=.builtin .append,args:=#[x,y],argTypes:=#[t,t2] },ty,pos,af,none⟩::rest) e h:=
 LW.act hd fun a w hf s=>by
  obtain⟨i,hi',hz,hs1,rfl⟩:=info_parts hi
  have hcz:∀ q,(Builtin.zeroCells z.cells q).toList=List.replicate q z:=fun q=>by
    have hsz:z.cells.size=1:=by rw [<- Array.length_toList,hz1];rfl
    have hg:z.cells[0]! = z:=by
      rw [getElem!_pos z.cells 0 (by omega)]
      have:z.cells[0]?=some z:=by rw [<- Array.getElem?_toList,hz1];rfl
      rw [Array.getElem?_eq_getElem (by omega)] at this
      exact Option.some.inj this
    apply List.ext_getElem?
    intro j
    by_cases hj:j<q
    . simp [Builtin.zeroCells,hsz,hj,Nat.mod_one]
      rw [getElem!_pos z.cells 0 (by omega)] at hg
      exact hg
    . simp [Builtin.zeroCells,hsz,hj]
  have hwk:IntKind.i64.wrap (k:Int)=(k:Int):=wr64 rfl (by omega) (by omega)
  have hkb:k*i.bytes<=(m+k)*i.bytes:=Nat.mul_le_mul_right _ (by omega)
  have ho:=o
  have fin:∀ v' ch' w',(Builtin.append_ #[t,t2] ty #[v,.int kx (k:Int)]).run P w=.ok v' w'->OwnS el 1 v' (m+k) (xs++List.replicate k z) ch'->St c (ch'::h') w' ->
      ∃ v h1 w',(execOp a.eval ⟨some d,.call { callee:=.builtin .append,args:=#[x,y],argTypes:=#[t,t2] },ty,pos,af,none⟩).run P w=.ok (.value v) w'/\St c h1 w'/\LW P n c ops Q rest ((d,v)::e) h1:=fun v' ch' w' hrun ho' hs'=>by
    refine⟨v',ch'::h',w',?_,hs',kont v' ch' ho'⟩
    simp only [execOp,resolve,invoke,builtin,List.map_toArray,List.map_cons,List.map_nil,hf.eval hx,hf.eval hy,Sem.run_bind,Sem.run_pure,Result.andThen_ok,hrun]
  rcases o with ⟨rfl,rfl,rfl,rfl⟩ | ⟨b,cap,slack,rfl,hxl,hmc,hsl,rfl⟩
  . have hs':St c h' w.drew:=(s.drew).sub (Sub.of_perm (by simpa [Take] using tk))
    have hcap:0+k<=grownCap w (0+k) 0 el:=cut_appendCap _ _ _ _
    have hrun:=run_append_newZ (P:=P) (w:=w) (ty:=ty) (kx:=kx) (base:=none) (m:=0) (cap:=0) (xs:=[]) ht ht2 hi' hz hk (by omega) hwk (by omega) (by simp [Builtin.firstCells]) (by omega) (by omega) (by
      rw [Nat.zero_add,nextslicecap_zero hk]
      simp at hb;omega)
    refine fin _ _ _ hrun (.inr ⟨w.heap.size,_,List.replicate (grownCap w (0+k) 0 el-(0+k)) z,rfl,by simp,hcap,by simp,rfl⟩) ?_
    have h0:=hs'.alloc (.cells ([].toArray++Builtin.zeroCells z.cells k++Builtin.zeroCells z.cells (grownCap w (0+k) 0 el-(0+k))) el)
    have hA:([].toArray++Builtin.zeroCells z.cells k++Builtin.zeroCells z.cells (grownCap w (0+k) 0 el-(0+k)):Array Value)=([]++List.replicate k z++List.replicate (grownCap w (0+k) 0 el-(0+k)) z).toArray:=by apply Array.ext';simp [hcz]
    rw [hA] at h0 |-
    exact h0
  . rcases Nat.lt_or_ge cap (m+k) with hg | hg
    . have hcap:m+k<=grownCap w (m+k) cap el:=cut_appendCap _ _ _ _
      have hf0:∀ w',St c h w'->(Builtin.firstCells i.size m (.slice (some ⟨b,0,none⟩) m cap)).run P w'=.ok xs.toArray w':=fun w' s'=>
        run_firstCells_some w' i.size m _ m cap xs (by rw [hs1];exact hxl) (fun j u hj=>by
         rw [Addr.add_mid,Nat.zero_add]
         refine s'.cell tk ?_
         rw [List.getElem?_append_left (List.getElem?_eq_some_iff.1 hj).1]
         exact hj)
      have hrun:=run_append_newZ (P:=P) (w:=w) (ty:=ty) (kx:=kx) ht ht2 hi' hz hk (by omega) hwk (by omega) (hf0 _ s.drew) hg (by omega) (growslice_fits (by omega) hb)
      refine fin _ _ _ hrun (.inr ⟨w.heap.size,_,List.replicate (grownCap w (m+k) cap el-(m+k)) z,rfl,(by rw [List.length_append,hxl,List.length_replicate];omega),hcap,by simp,rfl⟩) ?_
      have hs':St c h' w.drew:=(s.drew).sub ⟨[cr b el (xs++slack)],(List.perm_append_comm).trans tk⟩
      have h0:=hs'.alloc (.cells (xs.toArray++Builtin.zeroCells z.cells k++Builtin.zeroCells z.cells (grownCap w (m+k) cap el-(m+k))) el)
      have hA:(xs.toArray++Builtin.zeroCells z.cells k++Builtin.zeroCells z.cells (grownCap w (m+k) cap el-(m+k)):Array Value)=(xs++List.replicate k z++List.replicate (grownCap w (m+k) cap el-(m+k)) z).toArray:=by apply Array.ext';simp [hcz]
      rw [hA] at h0 |-
      exact h0
    . have hfitl:m*1+(List.replicate k z).length<=(xs++slack).length:=by
        rw [List.length_append,hxl,hsl,List.length_replicate];omega
      have hst:=run_storeCells_at P b (m*1) el (List.replicate k z) 0 (xs++slack).toArray w (s.row tk) (by simpa using hfitl) (fun u hu=>by rw [(List.mem_replicate.1 hu).2];exact h1)
      simp only [Nat.add_zero] at hst
      have hrun:=run_append_fitZ (P:=P) (w:=w) (ty:=ty) (kx:=kx) (base:=some ⟨b,0,none⟩) ht ht2 hi' hz hk (by omega) hwk (by omega) hg
      simp only [hs1,hcz,Addr.add_mid,Nat.zero_add,hst,Result.andThen_ok] at hrun
      refine fin _ [cr b el ((xs++slack).take (m*1)++List.replicate k z++(xs++slack).drop (m*1+(List.replicate k z).length))] _ hrun (.inr ⟨b,cap,slack.drop k,rfl,(by rw [List.length_append,hxl,List.length_replicate];omega),hg,?_,?_⟩) (s.setRow tk)
      . rw [List.length_drop,hsl];omega
      . congr 2
        rw [<- hxl,List.take_left,List.append_assoc,List.append_assoc,List.length_replicate,List.drop_append,List.drop_eq_nil_of_le (by omega:xs.length<=xs.length+k),Nat.add_sub_cancel_left,List.nil_append]
end
open Go.RowKit
section
variable {P:Program}{n:Nat}{c:Ctx}{Q:Exit->Act->World->Prop}{e:Env}{h:Heap}{ops:Array Oper}{rest:List Oper}{d ty:Nat}{pos:String}{af:Array Edge}
theorem run_cutFrom {t el sz:Nat}{x y:Operand}{b o l cp:Nat}{k:IntKind}(m:Nat){o':Nat}{a:Act}(hf:Fr n e a)(hx:e.ev x=some (.slice (some ⟨b,o,none⟩) l cp))(hy:e.ev y=some (.int k (m:Int)))(ht:P.underlying t=some (.slice el))(hsz:(P.info? el).map (·.size)=some sz)(h1:m<=l)(h2:l<=cp)(h3:m<cp)(ho:o+m*sz=o')(w:World) :
  (execOp a.eval ⟨some d,.slice t x (some y) none none,ty,pos,af,none⟩).run P w=.ok (.value (.slice (some ⟨b,o',none⟩) (l-m) (cp-m))) w:=by
 subst ho
 have hr:=run_slice_cut (P:=P) (w:=w) (A:=some ⟨b,o,none⟩) (l:=l) (cp:=cp) (lo:=m) (hi:=l) (mx:=cp) (L:=some (.int k (m:Int))) (H:=none) (M:=none) ht hsz (.inr ⟨k,rfl⟩) (.inl ⟨rfl,rfl,rfl⟩) (.inl ⟨rfl,rfl⟩) h1 h2 (Nat.le_refl _) h2
 rw [cutA,if_neg (by omega),Option.map_some,Addr.add_lit] at hr
 have hat:(Instr.sliceAt t (.slice (some ⟨b,o,none⟩) l cp) (some (.int k (m:Int))) none none).run P w=(Instr.slice t (.slice (some ⟨b,o,none⟩) l cp) (some (.int k (m:Int))) none none).run P w:=by simp [Instr.sliceAt,run_underlying ht]
 simp only [execOp,hf.eval hx,hf.eval hy,Option.map_none,Option.map_some,Sem.run_bind,hat,hr,Result.andThen_ok]
 rfl
theorem Yl.cutFrom {S:World->Prop}{t el sz:Nat}{x y:Operand}{b o l cp:Nat}{k:IntKind}(m o':Nat)(hx:e.ev x=some (.slice (some ⟨b,o,none⟩) l cp))(hy:e.ev y=some (.int k (m:Int)))(ht:P.underlying t=some (.slice el))(hsz:(P.info? el).map (·.size)=some sz)(h1:m<=l)(h2:l<=cp)(h3:m<cp)(ho:o+m*sz=o') :
 Yl P n S e ⟨some d,.slice t x (some y) none none,ty,pos,af,none⟩ (.slice (some ⟨b,o',none⟩) (l-m) (cp-m)):=fun _ w hf _=>run_cutFrom m hf hx hy ht hsz h1 h2 h3 ho w
theorem LW.cutFrom {t el sz:Nat}{x y:Operand}{b o l cp:Nat}{k:IntKind}(m o':Nat)(hx:e.ev x=some (.slice (some ⟨b,o,none⟩) l cp))(hy:e.ev y=some (.int k (m:Int)))(ht:P.underlying t=some (.slice el))(hsz:(P.info? el).map (·.size)=some sz)(h1:m<=l)(h2:l<=cp)(h3:m<cp)(ho:o+m*sz=o')(hd:Nat.blt d n=true)
 (kk:LW P n c ops Q rest ((d,.slice (some ⟨b,o',none⟩) (l-m) (cp-m))::e) h):LW P n c ops Q (⟨some d,.slice t x (some y) none none,ty,pos,af,none⟩::rest) e h:=LW.val _ hd (fun _ w hf _=>run_cutFrom m hf hx hy ht hsz h1 h2 h3 ho w) kk
theorem LW.capS {t:Nat}{x:Operand}{A:Option Addr}{l cp el:Nat}(hx:e.ev x=some (.slice A l cp))(ht:P.underlying t=some (.slice el))(hd:Nat.blt d n=true)(k:LW P n c ops Q rest ((d,iN cp)::e) h) :
  LW P n c ops Q (⟨some d,.call { callee:=.builtin .cap,args:=#[x],argTypes:=#[t] },ty,pos,af,none⟩::rest) e h:=
 LW.val _ hd (fun a w hf _=>by simp [execOp,resolve,invoke,builtin,hf.eval hx,Builtin.cap_,run_underlying ht,goInt]) k
theorem flatten_at {α:Type}{sz:Nat}(h0:0<sz):∀ (l:List (List α)) (k:Nat),(∀ v∈l,v.length=sz)->l.flatten[k]?=(l[k/sz]?).bind (·[k % sz]?)
 | [],k,_=>by simp
 | v::l,k,h=>by
  have hv:=h v List.mem_cons_self
  rw [List.flatten_cons]
  rcases Nat.lt_or_ge k sz with hk | hk
  . rw [List.getElem?_append_left (by omega),Nat.div_eq_of_lt hk,Nat.mod_eq_of_lt hk];rfl
  . rw [List.getElem?_append_right (by omega),flatten_at h0 l _ (fun u hu=>h u (List.mem_cons_of_mem _ hu)),hv]
    have e1:k/sz=(k-sz)/sz+1:=by rw [<- Nat.add_div_right _ h0];congr 1;omega
    have e2:k % sz=(k-sz) % sz:=by rw [<- Nat.add_mod_right (k-sz) sz];congr 1;omega
    rw [e1,e2,List.getElem?_cons_succ]
theorem flatten_len {α:Type}{sz:Nat}:∀ (l:List (List α)),(∀ v∈l,v.length=sz)->l.flatten.length=l.length*sz
 | [],_=>by simp
 | v::l,h=>by
  rw [List.flatten_cons,List.length_append,h v List.mem_cons_self,flatten_len l (fun u hu=>h u (List.mem_cons_of_mem _ hu)),List.length_cons,Nat.add_mul,Nat.one_mul,Nat.add_comm]
theorem LW.buildSliceA {t el len sz:Nat}{parts:List (Nat×Operand)}(css:List (List Value)){z:Value}{by_:Nat}(hp:e.Evs (parts.map (·.2)) (css.map fun v=>.agg v.toArray))(hix:parts.map (·.1)=List.range css.length)(h1:∀ v∈css,v.length=sz)(hs0:0<sz)
  (ht:P.underlying t=some (.slice el)) (hi:(P.info? el).map (fun i=>(i.zero,i.size,i.bytes))=some (some z,sz,by_)) (hlen:len=css.length) (hpos:0<len) (hsm:len*sz<=16777216) (hd:Nat.blt d n=true)
  (k:∀ b,LW P n c ops Q rest ((d,.slice (some ⟨b,0,none⟩) len len)::e) ([cr b el css.flatten]::h)):LW P n c ops Q (⟨some d,.buildSlice t len parts.toArray,ty,pos,af,none⟩::rest) e h:=
 LW.act hd fun a w hf s=>by
  obtain⟨i,hi',hz,rfl,_⟩:=info_parts hi
  have hev:=hp.map hf
  have hparts:(parts.toArray.map fun (i,x)=>(i,a.eval x)).toList=((css.map fun v=>Value.agg v.toArray).zipIdx 0).map fun x=>(x.2,x.1):=by
   rw [<- hev]
   rw [Array.toList_map]
   apply List.ext_getElem?
   intro j
   have hl:parts.length=css.length:=by have:=congrArg List.length hix;simpa using this
   by_cases hj:j<parts.length
   . have h2:(parts.map (·.1))[j]?=some j:=by rw [hix];simp [<- hl,hj]
     simp [hj] at h2 |-
     exact h2
   . simp [hj]
  obtain⟨r,hr,hsz,hk⟩:=Great.fill_dense hs0 (css.map fun v=>Value.agg v.toArray) 0 ((Array.range (len*i.size)).map (z.cells[· % z.cells.size]!)) (fun v hv=>by
   obtain⟨u,hu,rfl⟩:=List.mem_map.1 hv
   simpa [Value.cells] using h1 u hu) (by simp [hlen])
  have hrl:r=css.flatten.toArray:=by
   apply Array.ext_getElem?
   intro j
   rw [hk j]
   simp only [Nat.zero_mul,Nat.zero_le,true_and,Nat.zero_add,List.length_map,Nat.sub_zero,List.getElem?_toArray]
   by_cases hj:j<css.length*i.size
   . rw [if_pos hj,flatten_at hs0 css j h1,List.getElem?_map]
     cases css[j/i.size]?<;>simp [Value.cells]
   . rw [if_neg hj,List.getElem?_eq_none (by rw [flatten_len css h1];omega),Array.getElem?_eq_none (by simp [hlen];omega)]
  have hp2:=Nat.mul_pos hpos hs0
  have hrr:=run_buildSlice (P:=P) w t el len (parts.toArray.map fun (i,x)=>(i,a.eval x)) r i z ht hi' hz (by omega) (by omega) (by rw [hparts];exact hr)
  refine⟨.slice (some ⟨w.heap.size,0,none⟩) len len,_,w.alloc (.cells css.flatten.toArray el),?_,s.alloc _,k w.heap.size⟩
  simp only [execOp,Sem.run_bind,hrr,hrl,Result.andThen_ok];rfl
theorem LW.appendZNew {t t2 el sz by_ m k cap b:Nat}{x y:Operand}{kk kx:IntKind}{z:Value}{xs:List Value}(hx:e.ev x=some (.slice (some ⟨b,0,none⟩) m cap))(hy:e.ev y=some (.int kx (k:Int)))(ht:P.underlying t=some (.slice el))(ht2:P.underlying t2=some (.int kk))
  (hi:(P.info? el).map (fun i=>(i.zero,i.size,i.bytes))=some (some z,sz,by_)) (hzs:z.cells.size=sz) (hs0:0<sz) (hr:RdAt c h (some ⟨b,0,none⟩) xs) (hl:xs.length=m*sz) (hmc:m<=cap) (hk:0<k) (hn:cap<m+k) (h63:m+k<=1000000000) (hb:(m+k)*by_<=140737488355328) (hd:Nat.blt d n=true)
  (kont:∀ b' capn Z,m+k<=capn->Z.length=(capn-m)*sz->LW P n c ops Q rest ((d,.slice (some ⟨b',0,none⟩) (m+k) capn)::e) ([cr b' el (xs++Z)]::h)) :
  LW P n c ops Q (⟨some d,.call { callee:=.builtin .append,args:=#[x,y],argTypes:=#[t,t2] },ty,pos,af,none⟩::rest) e h:=
 LW.act hd fun a w hf s=>by
  obtain⟨i,hi',hz,rfl,rfl⟩:=info_parts hi
  have hwk:IntKind.i64.wrap (k:Int)=(k:Int):=wr64 rfl (by omega) (by omega)
  have hcap:m+k<=grownCap w (m+k) cap el:=cut_appendCap _ _ _ _
  have hf0:(Builtin.firstCells i.size m (.slice (some ⟨b,0,none⟩) m cap)).run P w.drew=.ok xs.toArray w.drew:=run_firstCells_rd hr s.drew hl (fun h0=>by cases h0)
  have hb2:k*i.bytes<=281474976710656:=by
    have:k*i.bytes<=(m+k)*i.bytes:=Nat.mul_le_mul_right _ (by omega)
    omega
  have hrun:=run_append_newZ (P:=P) (w:=w) (ty:=ty) (kx:=kx) ht ht2 hi' hz hk hs0 hwk hb2 hf0 hn (by omega) (growslice_fits (by omega) hb)
  refine⟨.slice (some ⟨w.heap.size,0,none⟩) (m+k) (grownCap w (m+k) cap el),_,_,?_,s.drew.alloc (.cells (xs.toArray++Builtin.zeroCells z.cells k++Builtin.zeroCells z.cells (grownCap w (m+k) cap el-(m+k))) el),?_⟩
  . simp only [execOp,resolve,invoke,builtin,List.map_toArray,List.map_cons,List.map_nil,hf.eval hx,hf.eval hy,Sem.run_bind,Sem.run_pure,Result.andThen_ok,hrun]
  . have h1:=kont w.heap.size (grownCap w (m+k) cap el) ((Builtin.zeroCells z.cells k).toList++(Builtin.zeroCells z.cells (grownCap w (m+k) cap el-(m+k))).toList) hcap (by
     have hcz:∀ q,(Builtin.zeroCells z.cells q).size=q*i.size:=fun q=>by simp [Builtin.zeroCells,hzs]
     rw [List.length_append,Array.length_toList,Array.length_toList,hcz,hcz,<- Nat.add_mul]
     congr 1;omega)
    have hA:(xs.toArray++Builtin.zeroCells z.cells k++Builtin.zeroCells z.cells (grownCap w (m+k) cap el-(m+k)):Array Value)=(xs++((Builtin.zeroCells z.cells k).toList++(Builtin.zeroCells z.cells (grownCap w (m+k) cap el-(m+k))).toList)).toArray:=by apply Array.ext';simp
    rw [hA]
    exact h1
theorem run_overlaps_rows {t tR el sz b1 o1 l1 c1 b2 o2 l2 c2:Nat}{t1 t2:TypeId}{x1 x2:List Value}{h1 h2:Heap}(ht:P.underlying t=some (.slice el))(hsz:(P.info? el).map (·.size)=some sz)(tk1:Take [cr b1 t1 x1] h h1)(tk2:Take [cr b2 t2 x2] h1 h2)(hx:x2≠[]) :
  ∀ w,St c h w->(Extern.SlicesOverlaps.overlaps #[t,t] #[tR] [.slice (some ⟨b1,o1,none⟩) l1 c1,.slice (some ⟨b2,o2,none⟩) l2 c2].toArray).run P w=.ok (.bool false) w:=fun w s=>by
 have s1:St c h1 w:=s.sub ⟨[cr b1 t1 x1],(List.perm_append_comm).trans tk1⟩
 have r1:=s.row tk1
 have r2:=s1.row tk2
 have hne:b1≠b2:=fun hh=>by
  have hnd:=s.ext.rows.1
  have hp:([b1]++([b2]++(h2.flatten.map (·.b)))).Perm (h.flatten.map (·.b)):=by
   have p1:=(tk1.map (·.b))
   have p2:=(tk2.map (·.b))
   simp only [List.map_append,List.map_cons,List.map_nil] at p1 p2
   exact (List.Perm.append_left _ p2).trans p1
  have:=hp.nodup_iff.2 hnd
  simp [hh] at this
 obtain⟨i,hi,rfl⟩:=Option.map_eq_some_iff.1 hsz
 simp only at r1 r2
 exact Go.Lib.run_overlaps_apart w t tR el ht i.size (fun w=>by simp [sizeOf,typeInfo,hi]) ⟨b1,o1,none⟩ ⟨b2,o2,none⟩ l1 c1 l2 c2 hne t1 t2 x1.length x2.length (by simp [World.shape?,r1]) (by simp [World.shape?,r2]) (by simpa using hx) (by simp [World.frozen?,r1]) (by simp [World.frozen?,r1])
theorem ins_new {α:Type}{xs ys Z:List α}{i m sz capn:Nat}(hl:xs.length=m*sz)(hi:i<=m)(hy:ys.length=sz)(hZ:Z.length=(capn-i)*sz)(hc:m+1<=capn) :
  ∃ slack,slack.length=(capn-(m+1))*sz/\(((xs.take (i*sz)++Z).take (i*sz)++ys++(xs.take (i*sz)++Z).drop (i*sz+ys.length)).take ((i+1)*sz)++xs.drop (i*sz)++((xs.take (i*sz)++Z).take (i*sz)++ys++(xs.take (i*sz)++Z).drop (i*sz+ys.length)).drop ((i+1)*sz+(xs.drop (i*sz)).length))=(xs.take (i*sz)++ys++xs.drop (i*sz))++slack:=by
 have hT:(xs.take (i*sz)).length=i*sz:=by rw [List.length_take,hl];exact Nat.min_eq_left (Nat.mul_le_mul_right _ hi)
 have hD:(xs.drop (i*sz)).length=(m-i)*sz:=by rw [List.length_drop,hl,Nat.sub_mul]
 generalize xs.take (i*sz)=T at *
 generalize xs.drop (i*sz)=D at *
 have e1:(T++Z).take (i*sz)=T:=by rw [<- hT];simp
 have e2:(T++Z).drop (i*sz+ys.length)=Z.drop sz:=by rw [<- hT,hy,List.drop_append];simp
 rw [e1,e2]
 have e3:(T++ys++Z.drop sz).take ((i+1)*sz)=T++ys:=by
  have:(i+1)*sz=(T++ys).length:=by rw [List.length_append,hT,hy,Nat.add_mul,Nat.one_mul]
  rw [this,List.take_left'];rfl
 have e4:(T++ys++Z.drop sz).drop ((i+1)*sz+D.length)=(Z.drop sz).drop D.length:=by
  have:(i+1)*sz=(T++ys).length:=by rw [List.length_append,hT,hy,Nat.add_mul,Nat.one_mul]
  rw [this,List.drop_append,List.drop_eq_nil_of_le (by omega),List.nil_append];congr 1;omega
 rw [e3,e4]
 refine⟨_,?_,rfl⟩
 rw [List.length_drop,List.length_drop,hZ,hD,<- Nat.sub_one_mul,<- Nat.sub_mul]
 congr 1;omega
theorem ins_in {α:Type}{xs ys slack:List α}{i m sz cap:Nat}(hl:xs.length=m*sz)(hi:i<=m)(hy:ys.length=sz)(hs:slack.length=(cap-m)*sz)(hc:m+1<=cap) :
   ∃ slack',slack'.length=(cap-(m+1))*sz/\((xs++slack).take ((i+1)*sz)++xs.drop (i*sz)++(xs++slack).drop ((i+1)*sz+(xs.drop (i*sz)).length)).take (i*sz)++ys++((xs++slack).take ((i+1)*sz)++xs.drop (i*sz)++(xs++slack).drop ((i+1)*sz+(xs.drop (i*sz)).length)).drop (i*sz+ys.length)=(xs.take (i*sz)++ys++xs.drop (i*sz))++slack':=by
 have hT:(xs.take (i*sz)).length=i*sz:=by rw [List.length_take,hl];exact Nat.min_eq_left (Nat.mul_le_mul_right _ hi)
 have hD:(xs.drop (i*sz)).length=(m-i)*sz:=by rw [List.length_drop,hl,Nat.sub_mul]
 have hx:xs=xs.take (i*sz)++xs.drop (i*sz):=(List.take_append_drop _ _).symm
 have hmi:i*sz+(m-i)*sz=m*sz:=by rw [<- Nat.add_mul];congr 1;omega
 have hcm:(cap-m)*sz=sz+(cap-(m+1))*sz:=by
   have:cap-m=1+(cap-(m+1)):=by omega
   rw [this,Nat.add_mul,Nat.one_mul]
 have hi1:(i+1)*sz=i*sz+sz:=by rw [Nat.add_mul,Nat.one_mul]
 generalize hTT:xs.take (i*sz)=T at *
 generalize hDD:xs.drop (i*sz)=D at *
 have e1:((xs++slack).take ((i+1)*sz)).take (i*sz)=T:=by rw [List.take_take,Nat.min_eq_left (by omega),List.take_append_of_le_length (by omega),hTT]
 have h1:((xs++slack).take ((i+1)*sz)).length=(i+1)*sz:=by rw [List.length_take,List.length_append];omega
 refine⟨(xs++slack).drop ((i+1)*sz+D.length),?_,?_⟩
 . rw [List.length_drop,List.length_append,hl,hs,hD];omega
 . rw [List.append_assoc ((xs++slack).take _),List.take_append_of_le_length (by omega),e1,List.drop_append,List.drop_eq_nil_of_le (by omega),List.nil_append,h1]
   rw [show i*sz+ys.length-(i+1)*sz=0 by omega,List.drop_zero,List.append_assoc,List.append_assoc,List.append_assoc]
theorem LW.splitA {a b:List Row}(k:LW P n c ops Q rest e (a::b::h)):LW P n c ops Q rest e ((a++b)::h):=k.heap (Sub.of_perm (by simp))
theorem LW.splitB {x a b:List Row}(k:LW P n c ops Q rest e (x::a::b::h)):LW P n c ops Q rest e (x::(a++b)::h):=k.heap (Sub.of_perm (by simp))
theorem OwnS.cutTo {t:TypeId}{sz:Nat}{A:Option Addr}{m cp m':Nat}{xs:List Value}{ch:List Row}(o:OwnS t sz (.slice A m cp) m xs ch)(h:m'<=m):OwnS t sz (.slice A m' cp) m' (xs.take (m'*sz)) ch:=by
 rcases o with ⟨hv,rfl,rfl,rfl⟩ | ⟨b,cap,slack,hv,hl,hc,hs,rfl⟩
 . injection hv with h1 h2 h3
   subst h1 h3
   obtain rfl:m'=0:=by omega
   exact .inl ⟨rfl,rfl,by simp,rfl⟩
 . injection hv with h1 h2 h3
   subst h1 h3
   have hle:=Nat.mul_le_mul_right sz h
   refine .inr ⟨b,cp,xs.drop (m'*sz)++slack,rfl,by rw [List.length_take,hl,Nat.min_eq_left hle],by omega,?_,by rw [<- List.append_assoc,List.take_append_drop]⟩
   rw [List.length_append,List.length_drop,hl,hs,<- Nat.sub_mul,<- Nat.add_mul]
   congr 1;omega
end
end Go.Proofs.YtnlpccoigflheaaGreatDoor
