/- Draw3 -/
import Derived.Test.YtnlpccoigflheaaGreatDoorDraw2
namespace Go.Proofs.YtnlpccoigflheaaGreatDoor
open Go.RowKit
theorem no_tf {b:Bool}(h:b=true)(h':b=false):False:=by rw [h] at h';cases h'
def wpAnyT (P:Program)(ops:Array Oper)(Q:Exit->Act->World->Prop)(H:World->Prop)(k:Nat):Nat->Array Bool->Act->World->Prop
 | 0,listed,a,w=>Region.ready .any ops listed=[]/\Q .normal a w
 | fuel+1,listed,a,w=>
  (Region.ready .any ops listed=[]->Q .normal a w) /\
  ∀ i∈Region.ready .any ops listed,wpOp P ops Q i (fun a' w'=>((listed.setIfInBounds i true).getD k true=false->H w')/\wpAnyT P ops Q H k fuel (listed.setIfInBounds i true) a' w') a w
section
variable {P:Program}{ops:Array Oper}{Q:Exit->Act->World->Prop}{H:World->Prop}{k:Nat}
theorem wpAny_of_T:∀ (fuel:Nat) (listed:Array Bool) (a:Act) (w:World),wpAnyT P ops Q H k fuel listed a w->wpAny P .any ops Q fuel listed a w
 | 0,_,_,_,h=>h
 | fuel+1,_,_,_,h=>⟨h.1,fun i hi=>wpOp_mono (fun a' w' h'=>wpAny_of_T fuel _ a' w' h'.2) (h.2 i hi)⟩
def waitsB (ops:Array Oper)(k i:Nat):Bool:=match ops[k]? with
 | some o=>o.after.any fun e=>Region.binds .any e && e.on==i
 | none=>false
def waitsPath (ops:Array Oper):Nat->List Nat->Nat->Bool
 | i,[],k=>waitsB ops k i
 | i,x::ps,k=>waitsB ops x i && waitsPath ops x ps k
theorem waitsB_not {ops:Array Oper}{x i:Nat}{listed:Array Bool}(h:waitsB ops x i=true)(hi:listed.getD i true=false)(hx:x∈Region.ready .any ops listed):False:=by
 obtain⟨_,o,ho,hall⟩:=mem_ready.1 hx
 simp only [waitsB,ho,Array.any_eq_true] at h
 obtain⟨q,hq,hb⟩:=h
 simp only [Bool.and_eq_true,beq_iff_eq] at hb
 have h1:=hall _ (Array.getElem_mem hq) hb.1
 rw [hb.2] at h1
 rcases Nat.lt_or_ge i listed.size with h' | h'
 . simp [h'] at hi h1;rw [hi] at h1;cases h1
 . simp [Array.getElem?_eq_none h'] at h1
theorem waitsPath_not {ops:Array Oper}{k j:Nat}{listed:Array Bool}(hj:j∈Region.ready .any ops listed):∀ (ps:List Nat) (i:Nat),waitsPath ops i ps k=true->listed.getD i true=false->(∀ x∈ps++[k],listed.getD x true=false)->∀ x∈ps++[k],j≠x
 | [],i,h,hi,_,x,hx=>by
  simp at hx;subst hx
  intro he;subst he
  exact waitsB_not h hi hj
 | y::ps,i,h,hi,hu,x,hx=>by
  simp only [waitsPath,Bool.and_eq_true] at h
  rcases List.mem_cons.1 hx with rfl | hx
  . intro he;subst he
    exact waitsB_not h.1 hi hj
  . exact waitsPath_not hj ps y h.2 (hu y (by simp)) (fun z hz=>hu z (List.mem_cons_of_mem _ hz)) x hx
theorem wpAnyT_first {i:Nat}{oi:Oper}{v:Value}(hold:Bool)(hi:ops[i]?=some oi)(hsel:∀ (j:Nat) (o:Oper) cs b,ops[j]?=some o->o.op≠.select cs b)
  (hQ:∀ c a w,Q (.panic c) (a.put oi.dst v) w->Q (.panic c) a w) (hki:k≠i) (ps:List Nat) (hwait:hold=true->waitsPath ops i ps k=true) :
  ∀ (fuel:Nat) (listed:Array Bool) (a:Act) (w:World),
    (∀ j oj,ops[j]?=some oj->j≠i->listed.getD j true=false->(∀ e∈oj.after,Region.binds .any e=true->e.on≠i)->oi.apart ops oj=true) ->
    i∈Region.ready .any ops listed->YieldsIf P ops (fun w=>hold=true->H w) oi v a->(hold=true->∀ x∈ps++[k],listed.getD x true=false)->(listed.getD k true=false->H w) ->
    wpAnyT P ops Q H k fuel (listed.setIfInBounds i true) (a.put oi.dst v) w->wpAnyT P ops Q H k (fuel+1) listed a w:=by
 intro fuel
 induction fuel with
 | zero=>
  intro listed a w _ hr hy hk hS G
  refine⟨fun h=>(by rw [h] at hr;cases hr),fun j hj=>?_⟩
  by_cases hji:j=i
  . subst hji;exact hy.wpOp hi (fun h=>hS (hk h k (by simp))) ⟨fun h=>hS (by rwa [getD_set_ne true (Ne.symm hki)] at h),G⟩
  . have:=ready_mono hj hji
    rw [G.1] at this
    cases this
 | succ fuel ih=>
  intro listed a w hfree hr hy hk hS G
  refine⟨fun h=>(by rw [h] at hr;cases hr),fun j hj=>?_⟩
  by_cases hji:j=i
  . subst hji;exact hy.wpOp hi (fun h=>hS (hk h k (by simp))) ⟨fun h=>hS (by rwa [getD_set_ne true (Ne.symm hki)] at h),G⟩
  . have h1:=G.2 j (ready_mono hj hji)
    obtain⟨hjun,oj,hoj,hall⟩:=mem_ready.1 hj
    have hnot:∀ e∈oj.after,Region.binds .any e=true->e.on≠i:=fun e he hb heq=>by
      have h1:=hall e he hb
      have h0:=(mem_ready.1 hr).1
      rw [heq] at h1
      rcases Nat.lt_or_ge i listed.size with h' | h'
      . simp [h'] at h0 h1;rw [h0] at h1;cases h1
      . simp [Array.getElem?_eq_none h'] at h1
    have hjk:hold=true->∀ x∈ps++[k],j≠x:=fun hh=>waitsPath_not hj ps i (hwait hh) (mem_ready.1 hr).1 (hk hh)
    have h2:=wpOp_putIf hoj (hfree j oj hoj hji hjun hnot) (fun cs b=>hsel i oi cs b hi) (fun cs b=>hsel j oj cs b hoj) hQ hy h1
    have hfree':∀ m om,ops[m]?=some om->m≠i->(listed.setIfInBounds j true).getD m true=false ->
        (∀ e∈om.after,Region.binds .any e=true->e.on≠i)->oi.apart ops om=true:=fun m om hm hmi hun hno=>by
      refine hfree m om hm hmi ?_ hno
      by_cases hjm:j=m
      . subst hjm;exact hjun
      . rw [getD_set_ne true hjm] at hun;exact hun
    have hcomm:(listed.setIfInBounds i true).setIfInBounds j true=(listed.setIfInBounds j true).setIfInBounds i true:=Array.setIfInBounds_comm _ _ (Ne.symm hji)
    refine wpOp_mono (fun a' w' h3=>?_) h2
    have h4:(listed.setIfInBounds j true).getD k true=false->H w':=fun h=>h3.2.1 (by rw [hcomm,getD_set_ne true (Ne.symm hki)];exact h)
    refine⟨h4,ih (listed.setIfInBounds j true) a' w' hfree' (ready_mono hr (Ne.symm hji)) h3.1 (fun hh x hx=>?_) h4 ?_⟩
    . rw [getD_set_ne true (hjk hh x hx)];exact hk hh x hx
    . rw [<- hcomm];exact h3.2.2
theorem wpAnyT_all {rs:List Nat}{fuel:Nat}{listed:Array Bool}{a:Act}{w:World}(hr:Region.ready .any ops listed=rs)(hne:rs≠[])
  (h:∀ i∈rs,wpOp P ops Q i (fun a' w'=>((listed.setIfInBounds i true).getD k true=false->H w')/\wpAnyT P ops Q H k fuel (listed.setIfInBounds i true) a' w') a w):wpAnyT P ops Q H k (fuel+1) listed a w:=
 ⟨fun h0=>absurd (hr ▸ h0) hne,hr ▸ h⟩
theorem wpAnyT_done {listed:Array Bool}{a:Act}{w:World}(hr:Region.ready .any ops listed=[])(h:Q .normal a w):∀ fuel,wpAnyT P ops Q H k fuel listed a w
 | 0=>⟨hr,h⟩
 | _+1=>⟨fun _=>h,by rw [hr];simp⟩
end
section
variable (P:Program)(n:Nat)(c:Ctx)
def AT (ops:Array Oper)(Q:Exit->Act->World->Prop)(H:World->Prop)(k:Nat)(fuel:Nat)(listed:Array Bool)(e:Env)(h:Heap):Prop:=∀ a w,Fr n e a->St c h w->wpAnyT P ops Q H k fuel listed a w
def ATs (ops:Array Oper)(Q:Exit->Act->World->Prop)(H:World->Prop)(k:Nat)(fuel:Nat)(listed:Array Bool)(rs:List Nat)(e:Env)(h:Heap):Prop:=
 ∀ i∈rs,∀ a w,Fr n e a->St c h w->wpOp P ops Q i (fun a' w'=>((listed.setIfInBounds i true).getD k true=false->H w')/\wpAnyT P ops Q H k fuel (listed.setIfInBounds i true) a' w') a w
end
def TT (P:Program)(n:Nat)(H:World->Prop)(ops:Array Oper):List (Nat×Option (List Nat))->Env->(Env->Prop)->Prop
 | [],e,K=>K e
 | (i,hold)::is,e,K=>∃ o d v,ops[i]?=some o/\o.dst=some d/\Nat.blt d n=true/\(∀ a,Fr n e a->YieldsIf P ops (fun w=>hold.isSome=true->H w) o v a)/\TT P n H ops is ((d,v)::e) K
def takesT (ops:Array Oper)(k:Nat):List (Nat×Option (List Nat))->Array Bool->Bool
 | [],_=>true
 | (i,hold)::is,listed=>(!(k==i) && ((match hold with | none=>true | some ps=>waitsPath ops i ps k && (ps++[k]).all (fun x=>!listed.getD x true)) && (Region.free .any ops listed i && (Region.ready .any ops listed).contains i))) && takesT ops k is (listed.setIfInBounds i true)
section
variable {P:Program}{n:Nat}{c:Ctx}{Q:Exit->Act->World->Prop}{e:Env}{h:Heap}{ops:Array Oper}{H:World->Prop}{k:Nat}{fuel:Nat}{listed:Array Bool}
theorem CW.drawT (hs:List Row)(k:Nat){id:Nat}(hm:P.follows .mixedOrders=true)(kk:AT P n c ops Q (Held c hs) k ops.size (Array.replicate ops.size false) e h):CW P n c (.region id ops true) Q e h:=
 fun a _w hf hs=>wp_region_any hm (wpAny_of_T _ _ _ _ (kk a _ hf hs.drew))
theorem AT.takes (is:List (Nat×Option (List Nat)))(m:Nat)(hs:Region.noSelect ops=true)(hb:takesT ops k is listed=true)(hfuel:fuel=m+is.length)(hQ:PO Q)(hS:listed.getD k true=false->∀ w,St c h w->H w)
  (kk:TT P n H ops is e (fun e'=>AT P n c ops Q H k m (listedBy (is.map (·.1)) listed) e' h)):AT P n c ops Q H k fuel listed e h:=by
 induction is generalizing listed e fuel with
 | nil=>simp at hfuel;subst hfuel;exact kk
 | cons x is ih=>
  obtain⟨i,hold⟩:=x
  obtain⟨o,d,v,hi,hod,hd,hy,kk⟩:=kk
  simp only [takesT,Bool.and_eq_true,Bool.not_eq_true'] at hb
  obtain⟨⟨hki,hw,hf,hr⟩,hb⟩:=hb
  have hki':k≠i:=by simpa using hki
  have hfu:fuel=(m+is.length)+1:=by rw [hfuel];simp;omega
  subst hfu
  intro a w hfr hst
  have hwk:hold.isSome=true->waitsPath ops i (hold.getD []) k=true/\∀ x∈(hold.getD [])++[k],listed.getD x true=false:=fun hh=>by
   cases hold with
   | none=>cases hh
   | some ps=>
    simp only [Bool.and_eq_true,List.all_eq_true,Bool.not_eq_true'] at hw
    exact⟨hw.1,hw.2⟩
  refine wpAnyT_first hold.isSome hi (Region.noSelect_spec hs) (fun ch a' w' hq=>by rw [hod] at hq;exact hQ ch d v a' w' hq) hki' (hold.getD []) (fun hh=>(hwk hh).1) _ listed a w (Region.free_spec hi hf) (by simpa using hr) (hy a hfr) (fun hh=>(hwk hh).2) (fun hl=>hS hl w hst) ?_
  have:=ih (listed:=listed.setIfInBounds i true) (fuel:=m+is.length) hb rfl (fun hl w hw=>hS (by rwa [getD_set_ne true (Ne.symm hki')] at hl) w hw) kk
  rw [hod]
  exact this _ _ (hfr.put d v hd) hst
theorem AT.act {o:Oper}(i:Nat)(hr:Region.ready .any ops listed=[i])(hi:ops[i]?=some o)
  (kk:LW P n c ops (Exit.then (fun a' w'=>((listed.setIfInBounds i true).getD k true=false->H w')/\wpAnyT P ops Q H k fuel (listed.setIfInBounds i true) a' w') Q) [o] e h):AT P n c ops Q H k (fuel+1) listed e h:=fun a w hf hs=>
 wpAnyT_all hr (by simp) fun j hj=>by
  have hji:j=i:=by simpa using hj
  subst hji
  exact wpOp_of_list hi (kk a w hf hs)
theorem AT.all (rs:List Nat)(hr:Region.ready .any ops listed=rs)(hne:rs.isEmpty=false)(kk:ATs P n c ops Q H k fuel listed rs e h):AT P n c ops Q H k (fuel+1) listed e h:=fun a w hf hs=>
 wpAnyT_all hr (by cases rs<;>simp_all) fun j hj=>kk j hj a w hf hs
theorem ATs.nil:ATs P n c ops Q H k fuel listed [] e h:=fun _ hi=>by cases hi
theorem ATs.cons {o:Oper}{i:Nat}{rs:List Nat}(hi:ops[i]?=some o)
   (kk:LW P n c ops (Exit.then (fun a' w'=>((listed.setIfInBounds i true).getD k true=false->H w')/\wpAnyT P ops Q H k fuel (listed.setIfInBounds i true) a' w') Q) [o] e h) (kr:ATs P n c ops Q H k fuel listed rs e h):ATs P n c ops Q H k fuel listed (i::rs) e h:=fun j hj a w hf hs=>by
 rcases List.mem_cons.1 hj with rfl | hj
 . exact wpOp_of_list hi (kk a w hf hs)
 . exact kr j hj a w hf hs
theorem AT.back (hS:∀ w,St c h w->H w)(kk:AT P n c ops Q H k fuel listed e h):NW n c .normal (Exit.then (fun a' w'=>(listed.getD k true=false->H w')/\wpAnyT P ops Q H k fuel listed a' w') Q) e h:=
 fun a w hf hs=>⟨fun _=>hS w hs,kk a w hf hs⟩
theorem AT.backK (hk:listed.getD k true=true)(kk:AT P n c ops Q H k fuel listed e h):NW n c .normal (Exit.then (fun a' w'=>(listed.getD k true=false->H w')/\wpAnyT P ops Q H k fuel listed a' w') Q) e h:=
 fun a w hf hs=>⟨fun hn=>(no_tf hk hn).elim,kk a w hf hs⟩
theorem AT.done (hr:Region.ready .any ops listed=[])(kk:NW n c .normal Q e h):AT P n c ops Q H k fuel listed e h:=fun a w hf hs=>wpAnyT_done hr (kk a w hf hs) _
variable {K:Env->Prop}{is:List (Nat×Option (List Nat))}{ps:List Nat}{i d ty:Nat}{op:Op}{pos:String}{af:Array Edge}{v:Value}
theorem TT.nil (kk:K e):TT P n H ops [] e K:=kk
theorem TT.takeH (hi:ops[i]?=some ⟨some d,op,ty,pos,af,none⟩)(hy:Yl P n H e ⟨some d,op,ty,pos,af,none⟩ v)(hd:Nat.blt d n=true)(kk:TT P n H ops is ((d,v)::e) K):TT P n H ops ((i,some ps)::is) e K:=
 ⟨_,d,v,hi,rfl,hd,fun a hf=>.inl ⟨rfl,fun w hw=>hy a w hf (hw rfl)⟩,kk⟩
theorem TT.take (hi:ops[i]?=some ⟨some d,op,ty,pos,af,none⟩)(hy:Yl P n (fun _=>True) e ⟨some d,op,ty,pos,af,none⟩ v)(hd:Nat.blt d n=true)(kk:TT P n H ops is ((d,v)::e) K):TT P n H ops ((i,none)::is) e K:=
 ⟨_,d,v,hi,rfl,hd,fun a hf=>.inl ⟨rfl,fun w _=>hy a w hf trivial⟩,kk⟩
end
section
variable {P:Program}{n:Nat}{c:Ctx}{ops:Array Oper}{Q:Exit->Act->World->Prop}{H:World->Prop}{k:Nat}{fuel:Nat}{listed:Array Bool}{e:Env}{h:Heap}
theorem AT.ts (is:List (Nat×Option (List Nat)))(m:Nat)(kk:TT P n H ops is e (fun e'=>AT P n c ops Q H k m (listedBy (is.map (·.1)) listed) e' h))(hs:Region.noSelect ops=true:=by kernel_rfl)(hb:takesT ops k is listed=true:=by kernel_rfl)(hfuel:fuel=m+is.length:=by rfl)(hQ:PO Q:=by repeat (first | refine PO.qof ?_ | exact PO.body | refine PO.then_ ?_ | refine PO.block ?_ | refine PO.noGoto ?_))(hS:listed.getD k true=false->∀ w,St c h w->H w:=by exact fun _ _ s=>Held.of s (by repeat (first | exact Sub.nil _ | refine Sub.cons1 .t ?_))):AT P n c ops Q H k fuel listed e h:=AT.takes is m hs hb hfuel hQ hS kk
theorem AT.b (kk:AT P n c ops Q H k fuel listed e h)(hS:∀ w,St c h w->H w:=by exact fun _ s=>Held.of s (by repeat (first | exact Sub.nil _ | refine Sub.cons1 .t ?_))):NW n c .normal (Exit.then (fun a' w'=>(listed.getD k true=false->H w')/\wpAnyT P ops Q H k fuel listed a' w') Q) e h:=AT.back hS kk
theorem AT.a {o:Oper}(i:Nat)(kk:LW P n c ops (Exit.then (fun a' w'=>((listed.setIfInBounds i true).getD k true=false->H w')/\wpAnyT P ops Q H k fuel (listed.setIfInBounds i true) a' w') Q) [o] e h)(hr:Region.ready .any ops listed=[i]:=by kernel_rfl)(hi:ops[i]?=some o:=by rfl):AT P n c ops Q H k (fuel+1) listed e h:=AT.act i hr hi kk
end
section
variable {P:Program}{n:Nat}{H:World->Prop}{ops:Array Oper}{i:Nat}{is:List (Nat×Option (List Nat))}{ps:List Nat}{e:Env}{K:Env->Prop}{d ty t s j b o:Nat}{pos:String}{af:Array Edge}{v:Value}{x:Operand}{c:Ctx}{hs:List Row}{u:TypeId}{l:List Value}
theorem TT.mv (kk:TT P n H ops is ((d,v)::e) K)(hi:ops[i]?=some ⟨some d,.move x,ty,pos,af,none⟩:=by rfl)(hx:e.ev x=some v:=by rfl)(hd:Nat.blt d n=true:=by rfl):TT P n H ops ((i,none)::is) e K:=TT.take hi (Yl.move hx) hd kk
theorem TT.np {p:Addr}(kk:TT P n H ops is ((d,.pointer (some p))::e) K)(hi:ops[i]?=some ⟨some d,.nilCheck x,ty,pos,af,none⟩:=by rfl)(hx:e.ev x=some (.pointer (some p)):=by rfl)(hd:Nat.blt d n=true:=by rfl):TT P n H ops ((i,none)::is) e K:=TT.take hi (Yl.nilPtr hx) hd kk
theorem TT.fa {g:Nat->Nat}(hf':∀ (b o:Nat) (w:World),(Instr.fieldAt s (.pointer (some ⟨b,o,none⟩)) j).run P w=.ok (.pointer (some ⟨b,g o,none⟩)) w)(kk:TT P n H ops is ((d,.pointer (some ⟨b,g o,none⟩))::e) K)(hi:ops[i]?=some ⟨some d,.fieldAddr s x j,ty,pos,af,none⟩:=by rfl)(hx:e.ev x=some (.pointer (some ⟨b,o,none⟩)):=by rfl)(hd:Nat.blt d n=true:=by rfl):TT P n H ops ((i,none)::is) e K:=TT.take hi (Yl.fieldAddr _ hx (fun w=>hf' b o w)) hd kk
theorem TT.ld (ht:oneB P t=true)(kk:TT P n (Held c hs) ops is ((d,v)::e) K)(hi:ops[i]?=some ⟨some d,.load t x,ty,pos,af,none⟩:=by rfl)(hx:e.ev x=some (.pointer (some ⟨b,o,none⟩)):=by rfl)(hm:cr b u l∈hs:=by repeat (first | exact List.Mem.head _ | refine List.Mem.tail _ ?_))(hv:l[o]?=some v:=by rfl)(hd:Nat.blt d n=true:=by rfl):TT P n (Held c hs) ops ((i,some ps)::is) e K:=TT.takeH hi (Yl.load hx hm hv ht) hd kk
end
end Go.Proofs.YtnlpccoigflheaaGreatDoor
