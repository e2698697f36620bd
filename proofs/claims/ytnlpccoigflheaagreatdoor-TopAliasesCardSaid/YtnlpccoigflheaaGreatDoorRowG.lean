/- RowG -/
import Derived.KernelRfl
import Derived.Test.YtnlpccoigflheaaGreatDoorCards
namespace Go.Proofs.YtnlpccoigflheaaGreatDoor
open Go
open Go.Proofs.Tryz
theorem noGo:prog.funcs.any Func.goes=false:=by kernel_rfl
theorem namedG:prog.funcNamed "fieldfare/fieldfaretop.TopAliases" = some 3:=by kernel_rfl
set_option maxRecDepth 100000 in
theorem noGo3:prog.goes 3=false:=by
 have h:∀ g:Nat,(prog.funcs[g]?).any Func.goes=false:=fun g=>by
  cases hg:prog.funcs[g]? with
  | none=>rfl
  | some fn=>
   obtain⟨hlt,rfl⟩:=Array.getElem?_eq_some_iff.1 hg
   have:=Array.any_eq_false.1 noGo g hlt
   simpa using this
 unfold Program.goes
 rw [noGo,Bool.and_false,Bool.or_false,List.any_eq_false]
 intro g _
 rw [h g]
 exact Bool.false_ne_true
set_option maxRecDepth 100000 in
theorem jfGoes:false=Rows.topAliasesRow.goesBy prog:=by
 have h1:Rows.topAliasesRow.func = "fieldfare/fieldfaretop.TopAliases" := rfl
 have h2:Rows.topAliasesRow.start=.entering:=rfl
 unfold OpenClaim.goesBy Program.goesAt Program.goesFrom
 rw [h1,h2,namedG]
 rw [Option.any_some,noGo3,Bool.false_or]
end Go.Proofs.YtnlpccoigflheaaGreatDoor
