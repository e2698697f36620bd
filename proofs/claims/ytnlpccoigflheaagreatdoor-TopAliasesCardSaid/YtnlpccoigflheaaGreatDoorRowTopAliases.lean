/-
  PROVED HERE: 'Rows.TopAliasesCardSaid': the law 'fieldfaretop.TopAliases' returns true at every input, its arguments read as they did; errors.errorType and math/bits.deBruijn32tab are tied to the program's text.
-/
import Derived.Test.YtnlpccoigflheaaGreatDoorTStore
import Derived.Test.YtnlpccoigflheaaGreatDoorTTop7
import Derived.Test.YtnlpccoigflheaaGreatDoorCards
import Derived.Test.YtnlpccoigflheaaGreatDoorRowJ
import Derived.Test.YtnlpccoigflheaaGreatDoorRowG
import Derived.Test.YtnlpccoigflheaaGreatDoorFac
namespace Go.Proofs.YtnlpccoigflheaaGreatDoor
open Go.ChangeShapes Go.WideShapes Go.RowKit Go.Deep Go.Joins
open Go.Proofs.Tryz
set_option maxRecDepth 100000 in
theorem topAliases_lifted (os:Os)(started:os.Started)(H:Type)(enc:TypeId×Value->H) :
  ReturnsInHanded {} checked os 3 .any (fun w args=>(Rows.topAliasesSpec.pre enc prog f3 [] false w args/\laidMetH prog laid2 w)/\sizedMet enc prog f3 (OpenSpec.ofChange Rows.topAliasesSpec) false w args)
   (Rows.topAliasesSpec.post enc prog f3 false true false false):=by
 refine returnsInHanded_of_change_and (C:=checked) (X:=fun w _=>laidMetH prog laid2 w) (fun _ _ _ hh h=>h.of_heap hh) own started (by kernel_rfl) func3
  (ChangeSpec.witness_at (enc:=enc) (C:=checked) (os:=os) (X:=fun w _=>laidMetH prog laid2 w) false (laidWorld2 os) #[.slice none 0 0,.slice none 0 0,.slice none 0 0,.slice none 0 0] 8 rfl (by kernel_rfl) (by kernel_rfl) (by kernel_rfl) (by kernel_rfl) (by kernel_rfl) (laidWorld2_met os _)) ?_
 intro W base args ds gs before hval0 hW _ _ hL _
 have hval:∀ (j:Nat) t v,f3.params[j]?=some t->args[j]?=some v->Value.okWide prog W .any base t v:=hval0
 have hb0:base=0\/True:=.inr trivial
 have hW':=hW
 obtain⟨p,q,hA0,hV,rfl,hfz,hnd⟩:=hW
 have hA:DataW.TrodAll enc prog W 0 (fun _=>true) true f3.params.toList args.toList ds p:=hA0
 rw [params3] at hA hval
 obtain⟨v0,v1,v2,v3,d0,d1,d2,d3,p0,p1,p2,p3,rfl,rfl,rfl,h0,h1,h2,h3⟩:=trodAll_four hA
 obtain⟨rfl,rfl⟩:=trodVars_none hV
 have hg:=handle_of_laid2 hL
 have ht:=tab_of_laid2 hL
 clear hA0 hval0
 have fin:∀ xs:Array Value,xs=#[v0,v1,v2,v3]->Calls prog 3 xs W (fun e W'=>e=.returned (.bool true)/\Below W.heap.size W W') ->
   Calls prog 3 xs W (fun e W'=>∃ v,e=.returned v/\Rows.topAliasesSpec.post enc prog f3 false true false false W xs v W'):=fun xs ha hc=>by
  subst ha
  refine hc.mono fun e W' hh=>?_
  obtain⟨he,hb⟩:=hh
  exact⟨_,he,post_true hW' rfl rfl (fun t ht=>by
   rw [params3] at ht
   simp at ht;rcases ht with rfl | rfl | rfl | rfl<;>exact⟨by kernel_rfl,by rw [ntypes];decide⟩) rfl hb⟩
 obtain⟨vs,hv0⟩:=open_vecs underlying22 underlying25 underlying21 (by kernel_rfl) (by kernel_rfl) (hval 0 22 v0 rfl rfl) h0
 obtain⟨ws,hv1⟩:=open_vecs underlying22 underlying25 underlying21 (by kernel_rfl) (by kernel_rfl) (hval 1 22 v1 rfl rfl) h1
 obtain⟨A2,cp2,ts,rfl,_,_,h2s,h2A⟩:=open_bools' underlying23 underlying4 (by kernel_rfl) (hval 2 23 v2 rfl rfl) h2
 obtain⟨qs,hv3⟩:=open_vec underlying25 underlying21 (by kernel_rfl) (hval 3 25 v3 rfl rfl) h3
 refine fin _ rfl ?_
 exact Spec.below (law_TopAliases W W.heap.size (heap_pos hg) hg ht v0 v1 v3 vs ws A2 cp2 ts qs hv0 hv1 h2s h2A hv3)
theorem topAliases_holds:Rows.TopAliasesSaid:=
 OpenClaim.holds_of_wide 3 f3 rfl rfl rfl rfl rfl rfl rfl ⟨rfl,rfl,rfl,rfl,rfl⟩ rfl rfl rfl rfl rfl jfNamed func3 jfAll
  (of_decide_eq_true (by kernel_rfl)) (by unfold Func.isWrapper;rw [if_neg (of_decide_eq_false (by kernel_rfl))];exact⟨rfl,rfl⟩)
  (fun os started H enc _=>topAliases_lifted os started H enc)
theorem topAliases_card:Rows.TopAliasesCardSaid:=
 Claim7.holds_tied_plain_at .later [] [.data,.handle] true (true, "dccd020eb4f3d3ad0f04ae92d7ed52b8cb17d2130daa95ab08408fef4782a6ba") true
  topAliases_holds (fun _ h=>by cases h) jfText (fun _ h=>by cases h) topAliases_row_tie rfl ⟨rfl,rfl⟩ jfMain rfl
  (fun f fn hf hfn=>by
   obtain rfl:f=3:=Option.some.inj (jfNamed.symm.trans hf) |>.symm
   obtain rfl:fn=f3:=(Option.some.inj (func3.symm.trans hfn)).symm
   exact⟨jfLooks,fun j t ht=>by
    rw [params3] at ht
    have hm:t∈[22,22,23,25]:=by
     have:=Array.mem_of_getElem? ht
     simpa using this
    simp at hm;rcases hm with rfl | rfl | rfl | rfl<;>exact (show prog.wantsStandIn _=false by kernel_rfl)⟩)
  jfGoes
#print axioms topAliases_card
end Go.Proofs.YtnlpccoigflheaaGreatDoor
