/- RangeX MapG Ops2 Ops3 Auto Ops4 Clos Old Cut Agg -/
import Derived.Test.YtnlpccoigflheaaGreatDoorMapX
import Derived.Laws.IdiomRangeMap
import Derived.Test.YtnlpccoigflheaaGreatDoorErrF
import Derived.Laws.Small
import Derived.Laws.Slices
import Derived.Test.YtnlpccoigflheaaGreatDoorDev2
import Derived.Test.YtnlpccoigflheaaGreatDoorFac
namespace Go.Proofs.YtnlpccoigflheaaGreatDoor
open Go.RowKit Go.MapKept
open Go.Proofs.Tryz
section
variable {P:Program}{n:Nat}{c:Ctx}{Q:Exit->Act->World->Prop}{e:Env}{h:Heap}{ops:Array Oper}{rest:List Oper}{d ty:Nat}{pos:String}{af:Array Edge}
theorem stamped_none:Stamped #[] 0:=⟨fun x hx=>by simp at hx,by simp,by simp⟩
theorem LW.rangeM {t kt et b:Nat}{x:Operand}{es:Array MapEntry}{clock:Nat}{h':Heap}(hx:e.ev x=some (.map (some b)))(tk:Take [⟨b,.map es clock⟩] h h')(ht:P.underlying t=some (.map kt et))(hd:Nat.blt d n=true)
  (k:∀ r,LW P n c ops Q rest ((d,.pointer (some ⟨r,0,none⟩))::e) ([⟨r,.mapIter (some b) clock #[] clock⟩]::h)):LW P n c ops Q (⟨some d,.range t x,ty,pos,af,none⟩::rest) e h:=
 LW.act hd fun a w hf s=>⟨.pointer (some ⟨w.heap.size,0,none⟩),[⟨w.heap.size,.mapIter (some b) clock #[] clock⟩]::h,w.alloc (.mapIter (some b) clock #[] clock),by
  have hr:=run_range_map (P:=P) w t kt et b es clock ht (s.row tk)
  simp only [execOp,hf.eval hx,Sem.run_bind,hr,Result.andThen_ok]
  rfl,s.alloc _,k _⟩
theorem run_next_at (w:World)(ty:TypeId)(r bm since c0:Nat)(seen:Array Nat)(es:Array MapEntry)(clock:Nat)(hr:w.heap[r]?=some (.mapIter (some bm) since seen c0))(hb:w.heap[bm]?=some (.map es clock))(hold:∀ x∈es.toList,x.born<since)(hsc:since<=c0) :
   ((leftOf es seen).size=0/\(Instr.next (.pointer (some ⟨r,0,none⟩)) false ty).run P w=.ok (.tuple #[.bool false]) w) \/
   ∃ e∈(leftOf es seen).toList,∃ w1:World,(w1=w\/w1=w.drew)/\(Instr.next (.pointer (some ⟨r,0,none⟩)) false ty).run P w=.ok (.tuple #[.bool true,e.key,e.val]) { w1 with heap:=w1.heap.setIfInBounds r (.mapIter (some bm) since (seen.push e.born) clock) }:=by
 simp only [Instr.next,getObj,Sem.run_bind,Sem.run,hr,hb,Result.andThen,next_test_false seen es since c0 hold hsc,Bool.false_eq_true,if_false]
 unfold leftOf
 have hmem:∀ x∈(Array.filter (fun e=>!seen.contains e.born) es).toList,x.born<since:=fun x hx=>hold x (by simp at hx |-;exact hx.1)
 generalize Array.filter (fun e=>!seen.contains e.born) es=L at hmem |-
 have e1:L.filter (fun x=>decide (x.born<since))=L:=Array.filter_eq_self.2 (fun x hx=>by simpa using hmem x (by simpa using hx))
 have e2:L.filter (fun x=>decide (x.born>=since))=#[]:=by
   rw [Array.filter_eq_empty_iff]
   intro x hx
   have:=hmem x (by simpa using hx)
   simp
   omega
 simp only [e1,e2,Array.append_empty]
 by_cases h0:L.size=0
 . left
   have:L=#[]:=Array.eq_empty_of_size_eq_zero h0
   subst this
   refine⟨rfl,?_⟩
   simp [choose,Sem.run,Question.forced]
 . right
   have hne:L.isEmpty=false:=by simp [Array.isEmpty,h0]
   simp only [hne,Bool.false_eq_true,if_false,Array.empty_append,Array.size_map]
   have hch:∃ (j:Nat) (w1:World),j<L.size/\(w1=w\/w1=w.drew)/\(choose (Question.mapNext L.size)).run P w=.ok j w1:=by
    by_cases hf:L.size<=1
    . exact⟨0,w,by omega,.inl rfl,by simp [choose,Sem.run,Question.forced,hf]⟩
    . exact⟨_,w.drew,Nat.mod_lt _ (by omega),.inr rfl,by
       simp only [choose,Sem.run,Question.forced,decide_eq_true_eq,hf,if_false,Question.cut]
       rfl⟩
   obtain⟨j,w1,hj,hal,hrun⟩:=hch
   refine⟨L[j],by simp,w1,hal,?_⟩
   have hr1:w1.heap[r]?=some (.mapIter (some bm) since seen c0):=by rcases hal with rfl | rfl<;>exact hr
   have hset:∀ o':Obj,(setObj r o').run P w1=.ok () { w1 with heap:=w1.heap.setIfInBounds r o' }:=fun o'=>by
    simp only [setObj,Sem.run,hr1]
   simp only [hrun,Array.getElem?_map,Array.getElem?_eq_getElem hj,Option.map_some,Sem.run_bind,hset,Result.andThen]
   rfl
theorem LW.nextM {r bm since c0 clock:Nat}{seen:Array Nat}{es:Array MapEntry}{it:Operand}{h1 h2:Heap}(hx:e.ev it=some (.pointer (some ⟨r,0,none⟩)))(tk1:Take [⟨bm,.map es clock⟩] h h1)(tk2:Take [⟨r,.mapIter (some bm) since seen c0⟩] h h2)
  (hold:∀ x∈es.toList,x.born<since) (hsc:since<=c0) (hd:Nat.blt d n=true)
  (k:∀ v h',((leftOf es seen).size=0/\v=.tuple #[.bool false]/\h'=h)\/(∃ x∈(leftOf es seen).toList,v=.tuple #[.bool true,x.key,x.val]/\h'=[⟨r,.mapIter (some bm) since (seen.push x.born) clock⟩]::h2)->LW P n c ops Q rest ((d,v)::e) h') :
  LW P n c ops Q (⟨some d,.next it false,ty,pos,af,none⟩::rest) e h:=
 LW.act hd fun a w hf s=>by
  rcases run_next_at (P:=P) w ty r bm since c0 seen es clock (s.row tk2) (s.row tk1) hold hsc with ⟨h0,hr⟩ | ⟨x,hx1,w1,hw1,hr⟩
  . exact⟨_,h,w,by simp only [execOp,hf.eval hx,Sem.run_bind,hr,Result.andThen_ok];rfl,s,k _ _ (.inl ⟨h0,rfl,rfl⟩)⟩
  . have s1:St c h w1:=by
     rcases hw1 with rfl | rfl
     . exact s
     . exact s.drew
    exact⟨_,_,_,by simp only [execOp,hf.eval hx,Sem.run_bind,hr,Result.andThen_ok];rfl,s1.setMap tk2 (s1.row tk2),k _ _ (.inr ⟨x,hx1,rfl,rfl⟩)⟩
theorem run_entry_at (w:World)(r bm since:Nat)(seen:Array Nat)(es:Array MapEntry)(clock:Nat)(e:MapEntry)(hr:w.heap[r]?=some (.mapIter (some bm) since (seen.push e.born) clock))(hb:w.heap[bm]?=some (.map es clock))(he:e∈es.toList)(hn:(es.toList.map (·.born)).Nodup) :
  (Instr.entry (.pointer (some ⟨r,0,none⟩))).run P w=.ok (.tuple #[e.key,e.val]) w:=by
 have hf:es.find? (·.born==e.born)=some e:=by rw [<- Array.find?_toList];exact find_born e es.toList hn he
 simp only [Instr.entry,getObj,Sem.run_bind,Sem.run,hr,hb,Result.andThen,Array.back?_push,bne_self_eq_false,Bool.false_eq_true,if_false,hf]
 rfl
theorem LW.entryM {r bm since clock:Nat}{seen:Array Nat}{es:Array MapEntry}{x:MapEntry}{it:Operand}{h1 h2:Heap}(hx:e.ev it=some (.pointer (some ⟨r,0,none⟩)))(tk1:Take [⟨bm,.map es clock⟩] h h1)(tk2:Take [⟨r,.mapIter (some bm) since (seen.push x.born) clock⟩] h h2)
  (he:x∈es.toList) (hn:(es.toList.map (·.born)).Nodup) (hd:Nat.blt d n=true) (k:LW P n c ops Q rest ((d,.tuple #[x.key,x.val])::e) h) :
  LW P n c ops Q (⟨some d,.entry it,ty,pos,af,none⟩::rest) e h:=
 LW.val _ hd (fun a w hf s=>by
  have hr:=run_entry_at (P:=P) w r bm since seen es clock x (s.row tk2) (s.row tk1) he hn
  simp only [execOp,hf.eval hx,Sem.run_bind,hr,Result.andThen_ok]
  rfl) k
theorem left_mem {es:Array MapEntry}{seen:Array Nat}{x:MapEntry}(hx:x∈(leftOf es seen).toList):x∈es.toList:=by
 unfold leftOf at hx
 rw [Array.toList_filter] at hx
 exact (List.mem_filter.1 hx).1
end
open Go.RowKit Go.MapKept
structure KeyOk {κ:Type}(kd:TypeDesc)(enc:κ->Value):Prop where
 inj:∀ a b,enc a=enc b->a=b
 key:∀ k,IsKey kd (enc k)
theorem keyInt:KeyOk (.int .i64) i64k:=⟨fun _ _ h=>i64k_inj h,fun _=>rfl⟩
theorem keyStr:KeyOk .string strV:=⟨fun a b h=>(strV_beq a b).1 h,fun _=>trivial⟩
section
variable {κ:Type}[DecidableEq κ]
def mget:List (κ×Value)->κ->Option Value
 | [],_=>none
 | (a,u)::r,k=>if a=k then some u else mget r k
def mset:List (κ×Value)->κ->Value->List (κ×Value)
 | [],k,u=>[(k,u)]
 | (a,w)::r,k,u=>if a=k then (a,u)::r else (a,w)::mset r k u
def mdel:List (κ×Value)->κ->List (κ×Value)
 | [],_=>[]
 | (a,w)::r,k=>if a=k then r else (a,w)::mdel r k
def mrep (enc:κ->Value)(l:List (κ×Value)):List (Value×Value):=l.map fun x=>(enc x.1,x.2)
def OwnMap (enc:κ->Value)(v:Value)(l:List (κ×Value))(ch:List Row):Prop:=
 ∃ b es clock,v=.map (some b)/\ch=[⟨b,.map es clock⟩]/\Stamped es clock/\es.toList.map (fun x=>(x.key,x.val))=mrep enc l
theorem OwnMap.one {enc:κ->Value}{v:Value}{l:List (κ×Value)}{ch:List Row}(o:OwnMap enc v l ch):v.oneCell'=true:=by
 have _i:=‹DecidableEq κ›
 obtain⟨b,es,clock,rfl,_⟩:=o
 rfl
theorem OwnMap.nodup {enc:κ->Value}{kd:TypeDesc}(hk:KeyOk kd enc){v:Value}{l:List (κ×Value)}{ch:List Row}(o:OwnMap enc v l ch):(l.map (·.1)).Nodup:=by
 have _i:=‹DecidableEq κ›
 obtain⟨b,es,clock,rfl,rfl,hs,he⟩:=o
 have h1:es.toList.map (·.key)=(l.map (·.1)).map enc:=by
  have:=congrArg (List.map Prod.fst) he
  simpa [mrep,Function.comp_def] using this
 have h2:=hs.2.2
 rw [h1] at h2
 exact List.Pairwise.of_map enc (fun a b hab hh=>hab (by rw [hh])) h2
theorem map_eraseIdx' {α β:Type}(f:α->β):∀ (l:List α) (j:Nat),(l.eraseIdx j).map f=(l.map f).eraseIdx j
 | [],_=>rfl
 | _::_,0=>rfl
 | a::l,j+1=>by simp [map_eraseIdx' f l j]
theorem mget_none {l:List (κ×Value)}{k:κ}(h:∀ x∈l,x.1≠k):mget l k=none:=by
 induction l with
 | nil=>rfl
 | cons a r ih=>
  simp only [mget]
  rw [if_neg (h a (by simp))]
  exact ih fun x hx=>h x (by simp [hx])
theorem mget_at {k:κ}{u:Value}:∀ {l:List (κ×Value)} {j:Nat},l[j]?=some (k,u)->(l.map (·.1)).Nodup->mget l k=some u
 | a::r,0,h,_=>by
  simp only [List.getElem?_cons_zero,Option.some.injEq] at h
  subst h
  simp [mget]
 | a::r,j+1,h,hn=>by
  simp only [List.getElem?_cons_succ] at h
  simp only [List.map_cons,List.nodup_cons] at hn
  have hak:a.1≠k:=fun hh=>hn.1 (hh ▸ List.mem_map.2 ⟨_,List.mem_of_getElem? h,rfl⟩)
  simp only [mget]
  rw [if_neg hak]
  exact mget_at h hn.2
theorem mset_none {k:κ}{u:Value}{l:List (κ×Value)}(h:∀ x∈l,x.1≠k):mset l k u=l++[(k,u)]:=by
 induction l with
 | nil=>rfl
 | cons a r ih=>
  simp only [mset,List.cons_append]
  rw [if_neg (h a (by simp)),ih fun x hx=>h x (by simp [hx])]
theorem mset_at {k:κ}{u w:Value}:∀ {l:List (κ×Value)} {j:Nat},l[j]?=some (k,w)->(l.map (·.1)).Nodup->mset l k u=l.set j (k,u)
 | a::r,0,h,_=>by
  simp only [List.getElem?_cons_zero,Option.some.injEq] at h
  subst h
  simp [mset]
 | a::r,j+1,h,hn=>by
  simp only [List.getElem?_cons_succ] at h
  simp only [List.map_cons,List.nodup_cons] at hn
  have hak:a.1≠k:=fun hh=>hn.1 (hh ▸ List.mem_map.2 ⟨_,List.mem_of_getElem? h,rfl⟩)
  simp only [mset,List.set_cons_succ]
  rw [if_neg hak,mset_at h hn.2]
theorem mdel_none {k:κ}{l:List (κ×Value)}(h:∀ x∈l,x.1≠k):mdel l k=l:=by
 induction l with
 | nil=>rfl
 | cons a r ih=>
  simp only [mdel]
  rw [if_neg (h a (by simp)),ih fun x hx=>h x (by simp [hx])]
theorem mdel_at {k:κ}{w:Value}:∀ {l:List (κ×Value)} {j:Nat},l[j]?=some (k,w)->(l.map (·.1)).Nodup->mdel l k=l.eraseIdx j
 | a::r,0,h,_=>by
  simp only [List.getElem?_cons_zero,Option.some.injEq] at h
  subst h
  simp [mdel]
 | a::r,j+1,h,hn=>by
  simp only [List.getElem?_cons_succ] at h
  simp only [List.map_cons,List.nodup_cons] at hn
  have hak:a.1≠k:=fun hh=>hn.1 (hh ▸ List.mem_map.2 ⟨_,List.mem_of_getElem? h,rfl⟩)
  simp only [mdel,List.eraseIdx_cons_succ]
  rw [if_neg hak,mdel_at h hn.2]
theorem findG {enc:κ->Value}{kd:TypeDesc}(hk:KeyOk kd enc){es:Array MapEntry}{l:List (κ×Value)}(he:es.toList.map (fun x=>(x.key,x.val))=mrep enc l)(k:κ) :
   ((∀ x∈l,x.1≠k)/\(∀ x∈es.toList,x.key≠enc k)/\Instr.findNow kd (enc k) es.toList 0=some none) \/
   (∃ (j:Nat) (u:Value),l[j]?=some (k,u)/\es[j]?.map (·.key)=some (enc k)/\Instr.findNow kd (enc k) es.toList 0=some (some (j,u))):=by
 have _i:=‹DecidableEq κ›
 have hks:∀ x∈es.toList,IsKey kd x.key:=fun x hx=>by
   have h1:(x.key,x.val)∈mrep enc l:=by rw [<- he];exact List.mem_map.2 ⟨x,hx,rfl⟩
   obtain⟨y,_,hy⟩:=List.mem_map.1 h1
   simp only [Prod.mk.injEq] at hy
   rw [<- hy.1];exact hk.key _
 rcases findNow_spec (hk.key k) es.toList 0 hks with ⟨h1,h2⟩ | ⟨j,e,h1,h2,h3⟩
 . refine .inl ⟨fun x hx hxk=>?_,fun x hx=>h2 x hx,h1⟩
   have hm:(enc x.1,x.2)∈es.toList.map (fun x=>(x.key,x.val)):=by rw [he];exact List.mem_map.2 ⟨x,hx,rfl⟩
   obtain⟨y,hy,hye⟩:=List.mem_map.1 hm
   simp only [Prod.mk.injEq] at hye
   exact h2 y hy (by rw [hye.1,hxk])
 . right
   have hj:(es.toList.map (fun x=>(x.key,x.val)))[j]?=some (e.key,e.val):=by simp [h2]
   rw [he,mrep,List.getElem?_map] at hj
   obtain⟨x,hx,hxe⟩:=Option.map_eq_some_iff.1 hj
   simp only [Prod.mk.injEq] at hxe
   have hxk:x.1=k:=hk.inj _ _ (hxe.1.trans h3)
   refine⟨j,x.2,by rw [hx,<- hxk],?_,by rw [h1,Nat.zero_add,hxe.2]⟩
   rw [Array.getElem?_toList] at h2
   rw [h2,Option.map_some,h3]
end
section
variable {P:Program}{n:Nat}{c:Ctx}{Q:Exit->Act->World->Prop}{e:Env}{h:Heap}{ops:Array Oper}{rest:List Oper}{d ty:Nat}{pos:String}{af:Array Edge}
variable {κ:Type}[DecidableEq κ]{enc:κ->Value}{kd:TypeDesc}
theorem LW.mapMakeG {t:Nat}(enc:κ->Value)(hd:Nat.blt d n=true)(k:∀ v ch,OwnMap enc v [] ch->LW P n c ops Q rest ((d,v)::e) (ch::h)) :
  LW P n c ops Q (⟨some d,.makeMap t none,ty,pos,af,none⟩::rest) e h:=
 have _i:=‹DecidableEq κ›;LW.act hd fun a w hf s=>⟨.map (some w.heap.size),[⟨w.heap.size,.map #[] 0⟩]::h,w.alloc (.map #[] 0),by simp [execOp,run_makeMap],s.alloc _,k _ _ ⟨w.heap.size,#[],0,rfl,rfl,stamped_none,rfl⟩⟩
theorem LW.mapLenG {t kt et:Nat}{x:Operand}{v:Value}{l:List (κ×Value)}{ch:List Row}{h':Heap}(hx:e.ev x=some v)(o:OwnMap enc v l ch)(tk:Take ch h h')(ht:P.underlying t=some (.map kt et))(hd:Nat.blt d n=true)
  (k:LW P n c ops Q rest ((d,iN l.length)::e) h):LW P n c ops Q (⟨some d,.call { callee:=.builtin .len,args:=#[x],argTypes:=#[t] },ty,pos,af,none⟩::rest) e h:=
 have _i:=‹DecidableEq κ›;LW.val _ hd (fun a w hf s=>by
  obtain⟨b,es,clock,rfl,rfl,_,he⟩:=o
  have hb:=s.row tk
  have hl:es.size=l.length:=by have:=congrArg List.length he;simpa [mrep] using this
  simp [execOp,resolve,invoke,builtin,hf.eval hx,Builtin.len_,run_underlying ht,run_getObj_map w _ _ _ hb,goInt,hl]) k
theorem run_lookG {w:World}{t kt et:Nat}{b:Nat}{es:Array MapEntry}{clock:Nat}{l:List (κ×Value)}(k:κ)(ok:Bool)(hk:KeyOk kd enc)(hb:w.heap[b]?=some (.map es clock))(hn:(l.map (·.1)).Nodup)(he:es.toList.map (fun x=>(x.key,x.val))=mrep enc l)
   (ht:P.underlying t=some (.map kt et)) (hkt:P.underlying kt=some kd) {z:Value} (hz:(P.info? et).bind (·.zero)=some z) :
   (Instr.lookup t (.map (some b)) (enc k) ok).run P w=.ok (if ok then .tuple #[(mget l k).getD z,.bool (mget l k).isSome] else (mget l k).getD z) w:=by
 obtain⟨i,hi,hz'⟩:=Option.bind_eq_some_iff.1 hz
 have hck:∀ em,(Instr.checkKey em 10000 kt (enc k)).run P w=.ok () w:=fun em=>run_checkKey hkt (hk.key k) em 9999
 rcases findG hk he k with ⟨hm,_,hf⟩ | ⟨j,u,hj,_,hf⟩
 . have hfk:=run_findKey (w:=w) hkt hf
   simp only [Instr.lookup,Sem.run_bind,run_underlying ht,Result.andThen_ok,run_getObj_map w _ _ _ hb,Sem.run_pure,hck,hfk,zeroValue,typeInfo,run_program,hi,hz',mget_none hm]
   rfl
 . have hfk:=run_findKey (w:=w) hkt hf
   simp only [Instr.lookup,Sem.run_bind,run_underlying ht,Result.andThen_ok,run_getObj_map w _ _ _ hb,Sem.run_pure,hck,hfk,mget_at hj hn]
   rfl
theorem LW.mapLookG {t kt et:Nat}{x y:Operand}{v:Value}{l:List (κ×Value)}{ch:List Row}{h':Heap}{k:κ}{z:Value}(ok:Bool)(r:Option Value)(hx:e.ev x=some v)(hy:e.ev y=some (enc k))(hk:KeyOk kd enc)(o:OwnMap enc v l ch)(tk:Take ch h h')
  (ht:P.underlying t=some (.map kt et)) (hkt:P.underlying kt=some kd) (hz:(P.info? et).bind (·.zero)=some z) (hr:mget l k=r) (hd:Nat.blt d n=true)
  (kk:LW P n c ops Q rest ((d,if ok then .tuple #[r.getD z,.bool r.isSome] else r.getD z)::e) h) :
  LW P n c ops Q (⟨some d,.lookup t x y ok,ty,pos,af,none⟩::rest) e h:=
 LW.val _ hd (fun a w hf s=>by
  subst hr
  have hn:=o.nodup hk
  obtain⟨b,es,clock,rfl,rfl,_,he⟩:=o
  have hr:=run_lookG (P:=P) (w:=w) k ok hk (s.row tk) hn he ht hkt hz
  simp only [execOp,hf.eval hx,hf.eval hy,Sem.run_bind,hr,Result.andThen_ok]
  rfl) kk
theorem LW.mapHit1 {t kt et:Nat}{x y:Operand}{v u:Value}{l:List (κ×Value)}{ch:List Row}{h':Heap}{k:κ}{z:Value}(hx:e.ev x=some v)(hy:e.ev y=some (enc k))(hk:KeyOk kd enc)(o:OwnMap enc v l ch)(tk:Take ch h h')
 (ht:P.underlying t=some (.map kt et)) (hkt:P.underlying kt=some kd) (hz:(P.info? et).bind (·.zero)=some z) (hr:mget l k=some u) (hd:Nat.blt d n=true) (kk:LW P n c ops Q rest ((d,u)::e) h) :
 LW P n c ops Q (⟨some d,.lookup t x y false,ty,pos,af,none⟩::rest) e h:=LW.mapLookG false (some u) hx hy hk o tk ht hkt hz hr hd kk
theorem LW.mapMiss1 {t kt et:Nat}{x y:Operand}{v:Value}{l:List (κ×Value)}{ch:List Row}{h':Heap}{k:κ}{z:Value}(hx:e.ev x=some v)(hy:e.ev y=some (enc k))(hk:KeyOk kd enc)(o:OwnMap enc v l ch)(tk:Take ch h h')
 (ht:P.underlying t=some (.map kt et)) (hkt:P.underlying kt=some kd) (hz:(P.info? et).bind (·.zero)=some z) (hr:mget l k=none) (hd:Nat.blt d n=true) (kk:LW P n c ops Q rest ((d,z)::e) h) :
 LW P n c ops Q (⟨some d,.lookup t x y false,ty,pos,af,none⟩::rest) e h:=LW.mapLookG false none hx hy hk o tk ht hkt hz hr hd kk
theorem LW.mapSetG {t kt et:Nat}{x y z:Operand}{v u:Value}{l:List (κ×Value)}{ch:List Row}{h':Heap}{k:κ}(hx:e.ev x=some v)(hy:e.ev y=some (enc k))(hz:e.ev z=some u)(hk:KeyOk kd enc)(o:OwnMap enc v l ch)(tk:Take ch h h')
  (ht:P.underlying t=some (.map kt et)) (hkt:P.underlying kt=some kd)
  (kk:∀ ch',OwnMap enc v (mset l k u) ch'->LW P n c ops Q rest e (ch'::h')):LW P n c ops Q (⟨none,.mapUpdate t x y z,ty,pos,af,none⟩::rest) e h:=
 LW.skipAct (.inl rfl) fun a w hf s=>by
  have hn:=o.nodup hk
  obtain⟨b,es,clock,rfl,rfl,hst,he⟩:=o
  have hb:=s.row tk
  have hck:∀ em,(Instr.checkKey em 10000 kt (enc k)).run P w=.ok () w:=fun em=>run_checkKey hkt (hk.key k) em 9999
  rcases findG hk he k with ⟨hm,hm2,hfn⟩ | ⟨j,u0,hj,hjk,hfn⟩
  . have hfk:=run_findKey (P:=P) (w:=w) hkt hfn
    refine⟨_,_,?_,s.setMap (o':=.map (es.push { key:=enc k,val:=u,born:=clock }) (clock+1)) tk hb,kk _ ⟨b,_,_,rfl,rfl,stamped_push hst hm2,?_⟩⟩
    . simp only [execOp,hf.eval hx,hf.eval hy,hf.eval hz,Instr.mapUpdate,Sem.run_bind,run_underlying ht,Result.andThen_ok,run_getObj_map w _ _ _ hb,hck,hfk,run_setObj_map _ hb]
      rfl
    . rw [mset_none hm,Array.toList_push,List.map_append,he]
      simp [mrep]
  . have hfk:=run_findKey (P:=P) (w:=w) hkt hfn
    refine⟨_,_,?_,s.setMap (o':=.map (es.modify j fun x=>{ x with key:=enc k,val:=u }) clock) tk hb,kk _ ⟨b,_,_,rfl,rfl,stamped_modify hst j _ (fun _ _=>rfl) (fun e2 _ h5=>by rw [h5] at hjk;simpa using hjk.symm),?_⟩⟩
    . have hks:=run_keyThatStays (P:=P) (w:=w) (d:=kd) (hk.key k)
      simp only [execOp,hf.eval hx,hf.eval hy,hf.eval hz,Instr.mapUpdate,Sem.run_bind,run_underlying ht,Result.andThen_ok,run_getObj_map w _ _ _ hb,hck,hfk,hjk,Option.getD_some,hks,run_setObj_map _ hb]
      rfl
    . rw [mset_at hj hn]
      apply List.ext_getElem?
      intro i
      have h1:(es.toList.map (fun x=>(x.key,x.val)))[i]?=(mrep enc l)[i]?:=by rw [he]
      rw [List.getElem?_map,Array.getElem?_toList] at h1
      rw [List.getElem?_map,Array.getElem?_toList,Array.getElem?_modify,mrep,List.getElem?_map,List.getElem?_set]
      have hjl:=(List.getElem?_eq_some_iff.1 hj).1
      by_cases hij:j=i
      . subst hij
        rw [if_pos rfl,if_pos rfl,if_pos hjl]
        obtain⟨y,hy1,_⟩:=Option.map_eq_some_iff.1 hjk
        rw [hy1]
        rfl
      . rw [if_neg hij,if_neg hij,h1,mrep,List.getElem?_map]
theorem LW.mapDelG {t kt et ty0:Nat}{x y:Operand}{v:Value}{l:List (κ×Value)}{ch:List Row}{h':Heap}{k:κ}(hx:e.ev x=some v)(hy:e.ev y=some (enc k))(hk:KeyOk kd enc)(o:OwnMap enc v l ch)(tk:Take ch h h')
  (ht:P.underlying t=some (.map kt et)) (hkt:P.underlying kt=some kd) {ats:Array TypeId} (hats:ats=#[t,ty0])
  (kk:∀ ch',OwnMap enc v (mdel l k) ch'->LW P n c ops Q rest e (ch'::h')):LW P n c ops Q (⟨none,.call { callee:=.builtin .delete,args:=#[x,y],argTypes:=ats },ty,pos,af,none⟩::rest) e h:=
 LW.skipAct (.inr ⟨.tuple #[],rfl⟩) fun a w hf s=>by
  subst hats
  have hn:=o.nodup hk
  obtain⟨b,es,clock,rfl,rfl,hst,he⟩:=o
  have hb:=s.row tk
  have hck:∀ em,(Instr.checkKey em 10000 kt (enc k)).run P w=.ok () w:=fun em=>run_checkKey hkt (hk.key k) em 9999
  rcases findG hk he k with ⟨hm,hm2,hfn⟩ | ⟨j,u0,hj,hjk,hfn⟩
  . have hfk:=run_findKey (P:=P) (w:=w) hkt hfn
    refine⟨_,_,?_,s.setMap (o':=.map es clock) tk hb,kk _ ⟨b,_,_,rfl,rfl,hst,by rw [mdel_none hm];exact he⟩⟩
    simp [execOp,resolve,invoke,builtin,hf.eval hx,hf.eval hy,Builtin.delete_,run_underlying ht,run_getObj_map w _ _ _ hb,hck,hfk,run_setObj_map _ hb]
  . have hfk:=run_findKey (P:=P) (w:=w) hkt hfn
    refine⟨_,_,?_,s.setMap (o':=.map (es.eraseIdxIfInBounds j) clock) tk hb,kk _ ⟨b,_,_,rfl,rfl,stamped_erase hst j,?_⟩⟩
    . simp [execOp,resolve,invoke,builtin,hf.eval hx,hf.eval hy,Builtin.delete_,run_underlying ht,run_getObj_map w _ _ _ hb,hck,hfk,run_setObj_map _ hb]
    . rw [mdel_at hj hn]
      have hjl:j<es.size:=by
       obtain⟨y,hy1,_⟩:=Option.map_eq_some_iff.1 hjk
       exact (Array.getElem?_eq_some_iff.1 hy1).1
      have h1:(es.eraseIdxIfInBounds j).toList=es.toList.eraseIdx j:=by simp [Array.eraseIdxIfInBounds,hjl]
      rw [h1,map_eraseIdx',he,mrep,mrep,map_eraseIdx']
end
open Go.RowKit
open Go.RowKit
section
variable {P:Program}{n:Nat}{c:Ctx}{Q:Exit->Act->World->Prop}{e:Env}{h:Heap}{ops:Array Oper}{rest:List Oper}{d ty:Nat}{pos:String}{af:Array Edge}
theorem LW.min2 {x y:Operand}{ats:Array TypeId}{k k':IntKind}{p q:Int}(r:Int)(hx:e.ev x=some (.int k p))(hy:e.ev y=some (.int k' q))(hr:(if q<p then q else p)=r)(hd:Nat.blt d n=true)(kk:LW P n c ops Q rest ((d,.int k r)::e) h) :
  LW P n c ops Q (⟨some d,.call { callee:=.builtin .min,args:=#[x,y],argTypes:=ats },ty,pos,af,none⟩::rest) e h:=
 LW.val _ hd (fun a w hf _=>by
  subst hr
  simp only [execOp,resolve,invoke,builtin,List.map_toArray,List.map_cons,List.map_nil,hf.eval hx,hf.eval hy,Sem.run_bind,Sem.run_pure,Result.andThen_ok,run_min_int2]) kk
theorem LW.neg {x:Operand}{t:Nat}{k:IntKind}{p:Int}(r:Int)(hx:e.ev x=some (.int k p))(hr:k.wrap (-p)=r)(hd:Nat.blt d n=true)(kk:LW P n c ops Q rest ((d,.int k r)::e) h) :
  LW P n c ops Q (⟨some d,.unOp .neg t x,ty,pos,af,none⟩::rest) e h:=
 LW.val _ hd (fun a w hf _=>by subst hr;simp [execOp,hf.eval hx,Op.unary,Op.intArith]) kk
end
open Go.RowKit
section
variable {P:Program}{n:Nat}{c:Ctx}{Q:Exit->Act->World->Prop}{e:Env}{h:Heap}{ops:Array Oper}{rest:List Oper}{d ty:Nat}{pos:String}{af:Array Edge}{xt yt:Nat}{x y:Operand}{p q:Int}{S:World->Prop}
theorem LW.add64 (hx:e.ev x=some (.int .i64 p))(hy:e.ev y=some (.int .i64 q))(h0:-9223372036854775808<=p+q)(h1:p+q<=9223372036854775807)(hd:Nat.blt d n=true)(k:LW P n c ops Q rest ((d,.int .i64 (p+q))::e) h) :
 LW P n c ops Q (⟨some d,.binOp .add xt x y yt,ty,pos,af,none⟩::rest) e h:=LW.add _ hx hy (wr64 rfl h0 h1) hd k
theorem LW.sub64 (hx:e.ev x=some (.int .i64 p))(hy:e.ev y=some (.int .i64 q))(h0:-9223372036854775808<=p-q)(h1:p-q<=9223372036854775807)(hd:Nat.blt d n=true)(k:LW P n c ops Q rest ((d,.int .i64 (p-q))::e) h) :
 LW P n c ops Q (⟨some d,.binOp .sub xt x y yt,ty,pos,af,none⟩::rest) e h:=LW.sub _ hx hy (wr64 rfl h0 h1) hd k
theorem LW.mul64 (hx:e.ev x=some (.int .i64 p))(hy:e.ev y=some (.int .i64 q))(h0:-9223372036854775808<=p*q)(h1:p*q<=9223372036854775807)(hd:Nat.blt d n=true)(k:LW P n c ops Q rest ((d,.int .i64 (p*q))::e) h) :
 LW P n c ops Q (⟨some d,.binOp .mul xt x y yt,ty,pos,af,none⟩::rest) e h:=LW.mul _ hx hy (wr64 rfl h0 h1) hd k
theorem Yl.add64 (hx:e.ev x=some (.int .i64 p))(hy:e.ev y=some (.int .i64 q))(h0:-9223372036854775808<=p+q)(h1:p+q<=9223372036854775807):Yl P n S e ⟨some d,.binOp .add xt x y yt,ty,pos,af,none⟩ (.int .i64 (p+q)):=Yl.add _ hx hy (wr64 rfl h0 h1)
theorem Yl.sub64 (hx:e.ev x=some (.int .i64 p))(hy:e.ev y=some (.int .i64 q))(h0:-9223372036854775808<=p-q)(h1:p-q<=9223372036854775807):Yl P n S e ⟨some d,.binOp .sub xt x y yt,ty,pos,af,none⟩ (.int .i64 (p-q)):=Yl.sub _ hx hy (wr64 rfl h0 h1)
variable {src dst:Nat}{kx:IntKind}{ds:TypeDesc}
theorem Yl.quo (r:Int){ki:IntKind}(hx:e.ev x=some (.int ki p))(hy:e.ev y=some (.int ki q))(h0:q≠0)(hr:ki.wrap (p.tdiv q)=r):Yl P n S e ⟨some d,.binOp .quo xt x y yt,ty,pos,af,none⟩ (.int ki r):=
 Yl.int2 hx hy (fun w=>by subst hr;simp [binOp,Op.intDiv,h0])
theorem tdivN {p q:Int}(h0:0<=p)(h1:0<q):p.tdiv q=p/q:=by rw [Int.tdiv_eq_ediv_of_nonneg h0]
theorem LW.quoN (hx:e.ev x=some (.int .i64 p))(hy:e.ev y=some (.int .i64 q))(h0:0<=p/\p<=9223372036854775807)(h1:0<q)(hd:Nat.blt d n=true)(k:LW P n c ops Q rest ((d,.int .i64 (p/q))::e) h) :
 LW P n c ops Q (⟨some d,.binOp .quo xt x y yt,ty,pos,af,none⟩::rest) e h:=LW.quo _ hx hy (by omega) (by
  rw [tdivN h0.1 h1]
  have h2:=Int.ediv_nonneg h0.1 (Int.le_of_lt h1)
  have h3:=Int.ediv_le_self q h0.1
  exact wr64 rfl (by omega) (by omega)) hd k
end
open Go.RowKit
section
variable {P:Program}{n:Nat}{c:Ctx}{Q:Exit->Act->World->Prop}{e:Env}{h:Heap}{ops:Array Oper}{rest:List Oper}{d ty:Nat}{pos:String}{af:Array Edge}
theorem LW.max2 {x y:Operand}{ats:Array TypeId}{k k':IntKind}{p q:Int}(r:Int)(hx:e.ev x=some (.int k p))(hy:e.ev y=some (.int k' q))(hr:(if q>p then q else p)=r)(hd:Nat.blt d n=true)(kk:LW P n c ops Q rest ((d,.int k r)::e) h) :
  LW P n c ops Q (⟨some d,.call { callee:=.builtin .max,args:=#[x,y],argTypes:=ats },ty,pos,af,none⟩::rest) e h:=
 LW.val _ hd (fun a w hf _=>by
  subst hr
  simp only [execOp,resolve,invoke,builtin,List.map_toArray,List.map_cons,List.map_nil,hf.eval hx,hf.eval hy,Sem.run_bind,Sem.run_pure,Result.andThen_ok,run_max_int2]) kk
theorem run_loadAt_aggA {t:TypeId}{w:World}{a:Addr}{td:TypeDesc}{cs:List Value}(hu:P.underlying t=some td)(hg:(match td with | .struct _ | .array _ _=>true | _=>false)=true)(hz:(P.info? t).map (·.size)=some cs.length)
  (hv:∀ j v,cs[j]?=some v->w.cell? (a.add j)=some v):(Instr.loadAt t (.pointer (some a))).run P w=.ok (.agg cs.toArray) w:=by
 obtain⟨i,hi,hs⟩:=Option.map_eq_some_iff.1 hz
 have hagg:(isAgg t).run P w=.ok true w:=by
  unfold isAgg
  rw [Sem.run_bind,run_underlying hu w]
  cases td<;>simp_all
 have hl:=run_loadCells_list (P:=P) w a cs hv
 simp [Instr.loadAt,Instr.sureAddr,loadVar,hagg,sizeOf,typeInfo,hi,hs,hl]
end
open Go.RowKit
section
variable {P:Program}{n:Nat}{c:Ctx}{Q:Exit->Act->World->Prop}{e:Env}{h:Heap}{ops:Array Oper}{rest:List Oper}{d ty:Nat}{pos:String}{af:Array Edge}
theorem LW.makeFn {f:Nat}{fs cs:List Operand}{vs us:List Value}(hfs:e.Evs fs vs)(hcs:e.Evs cs us)(hd:Nat.blt d n=true)(k:LW P n c ops Q rest ((d,.func (.func f) vs.toArray us.toArray)::e) h) :
  LW P n c ops Q (⟨some d,.makeFunc (.func f) fs.toArray cs.toArray,ty,pos,af,none⟩::rest) e h:=
 LW.val _ hd (fun a w hf _=>by
  have h1:=evs_arr hf hfs
  have h2:=evs_arr hf hcs
  simp [execOp,Instr.makeFunc,h1,h2]) k
theorem LW.callFn {f:Nat}{x:Operand}{xs:List Operand}{ats:Array TypeId}{args us:List Value}{pre:List Row}{R:Value->List Row->Prop}{h':Heap}(hx:e.ev x=some (.func (.func f) #[] us.toArray))(spec:Spec P c.W c.B f (args++us) pre R)
  (hc:Callee P f) (hargs:e.Evs xs args) (tk:Take pre h h') (hd:Nat.blt d n=true) (k:∀ v post,R v post->LW P n c ops Q rest ((d,v)::e) (post::h')) :
  LW P n c ops Q (⟨some d,.call { callee:=.value x,args:=xs.toArray,argTypes:=ats },ty,pos,af,none⟩::rest) e h:=fun a w hf s=>
 wpList_plain rfl fun K hK=>by
  obtain⟨fn,code,hfn,hbody,hname⟩:=hc
  have hmap:xs.toArray.map a.eval=args.toArray:=evs_arr hf hargs
  have hpre:RowsOk c.B pre w:=s.ext.rows.sub ⟨h'.flatten,tk⟩
  have hrun:(execOp a.eval ⟨some d,.call { callee:=.value x,args:=xs.toArray,argTypes:=ats },ty,pos,af,none⟩).run P w=.ok (.enter f (args++us).toArray) w:=by
   have he:a.eval x=.func (.func f) #[] us.toArray:=hf.eval hx
   have hn:¬ fn.name = "runtime.NumGoroutine" := by simpa using hname
   simp only [execOp,resolve,he,Deferred.ofValue,hmap]
   simp [invoke,callFunc,hfn,hbody,hn]
  unfold Oper.wp
  rw [hrun,Oper.upon_enter]
  refine (spec w s.old hpre).mono ?_
  rintro _ w' ⟨v,post,rfl,hR,hx⟩
  exact hK _ _ (k v post hR _ _ (hf.put d v hd) (s.called tk hx))
end
open Go.RowKit
section
variable {P:Program}{n:Nat}{c:Ctx}{e:Env}{d ty:Nat}{pos:String}{af:Array Edge}
theorem Yl.rem {S:World->Prop}{xt yt:Nat}{x y:Operand}{ki:IntKind}{p q:Int}(r:Int)(hx:e.ev x=some (.int ki p))(hy:e.ev y=some (.int ki q))(h0:q≠0)(hr:p.tmod q=r):Yl P n S e ⟨some d,.binOp .rem xt x y yt,ty,pos,af,none⟩ (.int ki r):=
 Yl.int2 hx hy (fun w=>by subst hr;simp [binOp,Op.intDiv,h0])
end
open Go.RowKit
theorem cutA_zero' (A:Option Addr)(mx sz:Nat):cutA A mx 0 sz=A:=by
 unfold cutA
 split
 . rfl
 . cases A with
   | none=>rfl
   | some a=>simp [Addr.add]
section
variable {P:Program}{n:Nat}{c:Ctx}{Q:Exit->Act->World->Prop}{e:Env}{h:Heap}{ops:Array Oper}{rest:List Oper}{d ty:Nat}{pos:String}{af:Array Edge}
theorem Yl.min2 {S:World->Prop}{x y:Operand}{ats:Array TypeId}{k k':IntKind}{p q:Int}(r:Int)(hx:e.ev x=some (.int k p))(hy:e.ev y=some (.int k' q))(hr:(if q<p then q else p)=r) :
  Yl P n S e ⟨some d,.call { callee:=.builtin .min,args:=#[x,y],argTypes:=ats },ty,pos,af,none⟩ (.int k r):=fun a w hf _=>by
 subst hr
 simp only [execOp,resolve,invoke,builtin,List.map_toArray,List.map_cons,List.map_nil,hf.eval hx,hf.eval hy,Sem.run_bind,Sem.run_pure,Result.andThen_ok,run_min_int2]
theorem run_cutTo {t el sz:Nat}{x y:Operand}{A:Option Addr}{l cp:Nat}{k:IntKind}(m:Nat){a:Act}(hf:Fr n e a)(hx:e.ev x=some (.slice A l cp))(hy:e.ev y=some (.int k (m:Int)))(ht:P.underlying t=some (.slice el))(hsz:(P.info? el).map (·.size)=some sz)(h1:m<=l)(h2:l<=cp)(w:World) :
  (execOp a.eval ⟨some d,.slice t x none (some y) none,ty,pos,af,none⟩).run P w=.ok (.value (.slice A m cp)) w:=by
 have hr:=run_slice_cut (P:=P) (w:=w) (A:=A) (l:=l) (cp:=cp) (lo:=0) (hi:=m) (mx:=cp) (L:=none) (H:=some (.int k (m:Int))) (M:=none) ht hsz (.inl ⟨rfl,rfl⟩) (.inr ⟨k,rfl⟩) (.inl ⟨rfl,rfl⟩) (Nat.zero_le _) (by omega) (Nat.le_refl _) h2
 rw [cutA_zero',Nat.sub_zero,Nat.sub_zero] at hr
 have hat:(Instr.sliceAt t (.slice A l cp) none (some (.int k (m:Int))) none).run P w=(Instr.slice t (.slice A l cp) none (some (.int k (m:Int))) none).run P w:=by simp [Instr.sliceAt,run_underlying ht]
 simp only [execOp,hf.eval hx,hf.eval hy,Option.map_none,Option.map_some,Sem.run_bind,hat,hr,Result.andThen_ok]
 rfl
theorem Yl.cutTo {S:World->Prop}{t el sz:Nat}{x y:Operand}{A:Option Addr}{l cp:Nat}{k:IntKind}(m:Nat)(hx:e.ev x=some (.slice A l cp))(hy:e.ev y=some (.int k (m:Int)))(ht:P.underlying t=some (.slice el))(hsz:(P.info? el).map (·.size)=some sz)(h1:m<=l)(h2:l<=cp) :
 Yl P n S e ⟨some d,.slice t x none (some y) none,ty,pos,af,none⟩ (.slice A m cp):=fun _ w hf _=>run_cutTo m hf hx hy ht hsz h1 h2 w
theorem LW.cutTo {t el sz:Nat}{x y:Operand}{A:Option Addr}{l cp:Nat}{k:IntKind}(m:Nat)(hx:e.ev x=some (.slice A l cp))(hy:e.ev y=some (.int k (m:Int)))(ht:P.underlying t=some (.slice el))(hsz:(P.info? el).map (·.size)=some sz)(h1:m<=l)(h2:l<=cp)(hd:Nat.blt d n=true)
 (kk:LW P n c ops Q rest ((d,.slice A m cp)::e) h):LW P n c ops Q (⟨some d,.slice t x none (some y) none,ty,pos,af,none⟩::rest) e h:=LW.val _ hd (fun _ w hf _=>run_cutTo m hf hx hy ht hsz h1 h2 w) kk
end
open Go.RowKit
section
variable {P:Program}{n:Nat}{c:Ctx}{Q:Exit->Act->World->Prop}{e:Env}{h:Heap}{ops:Array Oper}{rest:List Oper}{d ty:Nat}{pos:String}{af:Array Edge}
theorem run_loadAgg_rd {t:Nat}{a:Addr}{j0:Nat}{td:TypeDesc}{cs xs:List Value}{w:World}(hr:RdAt c h (some a) xs)(s:St c h w)(h0:0<cs.length)(hv:∀ j v,cs[j]?=some v->xs[j0+j]?=some v)
   (hu:P.underlying t=some td) (hg:(match td with | .struct _ | .array _ _=>true | _=>false)=true) (hz:(P.info? t).map (·.size)=some cs.length):(Instr.loadAt t (.pointer (some (a.add j0)))).run P w=.ok (.agg cs.toArray) w:=by
 rcases hr with rfl | ⟨a',ha,hc⟩
 . have:=hv 0 cs[0] (by simp [h0])
   simp at this
 . cases ha
   exact run_loadAt_aggA hu hg hz (fun j v hj=>by rw [add_of_add];exact hc w s _ _ (hv j v hj))
theorem LW.loadAggRd {t:Nat}{x:Operand}{a:Addr}{j0:Nat}{td:TypeDesc}(cs:List Value){xs:List Value}(hx:e.ev x=some (.pointer (some (a.add j0))))(hr:RdAt c h (some a) xs)(h0:0<cs.length)(hv:∀ j v,cs[j]?=some v->xs[j0+j]?=some v)
  (hu:P.underlying t=some td) (hg:(match td with | .struct _ | .array _ _=>true | _=>false)=true) (hz:(P.info? t).map (·.size)=some cs.length) (hd:Nat.blt d n=true)
  (k:LW P n c ops Q rest ((d,.agg cs.toArray)::e) h):LW P n c ops Q (⟨some d,.load t x,ty,pos,af,none⟩::rest) e h:=
 LW.val _ hd (fun a1 w hf s=>by simp [execOp,hf.eval hx,run_loadAgg_rd hr s h0 hv hu hg hz]) k
theorem Yl.loadAggRd {t:Nat}{x:Operand}{a:Addr}{j0:Nat}{td:TypeDesc}(cs:List Value){xs:List Value}(hx:e.ev x=some (.pointer (some (a.add j0))))(hr:RdAt c h (some a) xs)(h0:0<cs.length)(hv:∀ j v,cs[j]?=some v->xs[j0+j]?=some v)
 (hu:P.underlying t=some td) (hg:(match td with | .struct _ | .array _ _=>true | _=>false)=true) (hz:(P.info? t).map (·.size)=some cs.length) :
 Yl P n (St c h) e ⟨some d,.load t x,ty,pos,af,none⟩ (.agg cs.toArray):=fun a1 w hf s=>by simp [execOp,hf.eval hx,run_loadAgg_rd hr s h0 hv hu hg hz]
theorem LW.sliceNil {xt yt el:Nat}{x:Operand}{A:Option Addr}{l cp:Nat}(r:Bool)(hx:e.ev x=some (.slice A l cp))(ht:P.underlying xt=some (.slice el))(hr:A.isNone=r)(hd:Nat.blt d n=true)(k:LW P n c ops Q rest ((d,.bool r)::e) h) :
  LW P n c ops Q (⟨some d,.binOp .eql xt x (.const (.slice none 0 0)) yt,ty,pos,af,none⟩::rest) e h:=
 LW.val _ hd (fun a w hf _=>by
  subst hr
  have he:a.eval (.const (.slice none 0 0))=.slice none 0 0:=rfl
  have hq:∀ m,(Op.equalIn (m+1) xt (.slice A l cp) (.slice none 0 0)).run P w=.ok A.isNone w:=fun m=>by
   cases A<;>simp [Op.equalIn,run_underlying ht]
  cases A<;>simp [execOp,hf.eval hx,he,eqGuard_at_slice,binOp,Op.equal,Op.maxDepth,hq 9999,Result.andThen]) k
theorem LW.slice0 {t el:Nat}{z:Value}{sz by_:Nat}(ht:P.underlying t=some (.slice el))(hi:(P.info? el).map (fun i=>(i.zero,i.size,i.bytes))=some (some z,sz,by_))(hd:Nat.blt d n=true)
  (k:∀ b,LW P n c ops Q rest ((d,.slice (some ⟨b,0,none⟩) 0 0)::e) ([cr b el []]::h)):LW P n c ops Q (⟨some d,.buildSlice t 0 #[],ty,pos,af,none⟩::rest) e h:=
 LW.act hd fun a w hf s=>by
  obtain⟨i,hi',hz,hs1,_⟩:=info_parts hi
  refine⟨.slice (some ⟨w.heap.size,0,none⟩) 0 0,_,w.alloc (.cells #[] el),?_,s.alloc _,k w.heap.size⟩
  simp [execOp,Instr.buildSlice,run_underlying ht,typeInfo,hi',zeroValue,hz,sizeOf,newRow,Instr.fill,Array.range_zero']
end
end Go.Proofs.YtnlpccoigflheaaGreatDoor
