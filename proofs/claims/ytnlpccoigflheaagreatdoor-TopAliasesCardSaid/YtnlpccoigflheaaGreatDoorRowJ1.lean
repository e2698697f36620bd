/- RowJ1 -/
import Derived.KernelRfl
import Derived.JoinedOf
import Derived.Test.YtnlpccoigflheaaGreatDoorCards
namespace Go.Proofs.YtnlpccoigflheaaGreatDoor
open Go
open Go.Proofs.Tryz
theorem jf1:(Rows.topAliasesRow.wf (OpenSpec.ofChange Rows.topAliasesSpec))=true:=by kernel_rfl
theorem jf2:(laidOutB prog)=true:=by kernel_rfl
theorem jf3:(mapsRowed prog)=true:=by kernel_rfl
theorem jf4:(f3.params.all (prog.readableRec ·))=true:=by kernel_rfl
theorem jf5:(namedTie prog Rows.topAliasesRow.named Rows.topAliasesSpec.vars)=true:=by kernel_rfl
theorem jf6:((Rows.topAliasesRow.stops==[]))=true:=by kernel_rfl
theorem jf7:((prog.stops==[]))=true:=by kernel_rfl
theorem jf8:((Rows.topAliasesRow.knobs==[]))=true:=by kernel_rfl
theorem jf9:((prog.stopKnobs==[]))=true:=by kernel_rfl
theorem jf10:((Rows.topAliasesRow.inPlace==prog.inPlace 3))=true:=by kernel_rfl
theorem jf11:((Rows.topAliasesRow.unfollowed==prog.unfollowed 3))=true:=by kernel_rfl
theorem jf12:((Rows.topAliasesRow.recurses==prog.recurses 3))=true:=by kernel_rfl
end Go.Proofs.YtnlpccoigflheaaGreatDoor
