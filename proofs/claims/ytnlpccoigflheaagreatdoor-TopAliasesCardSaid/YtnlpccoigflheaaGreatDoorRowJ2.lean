/- RowJ2 -/
import Derived.KernelRfl
import Derived.JoinedOf
import Derived.Test.YtnlpccoigflheaaGreatDoorCards
namespace Go.Proofs.YtnlpccoigflheaaGreatDoor
open Go
open Go.Proofs.Tryz
theorem jf13:((Rows.topAliasesRow.named==prog.varsNamed 3))=true:=by kernel_rfl
theorem jf14:((Rows.topAliasesRow.maps==(f3.params.toList++Rows.topAliasesSpec.plain.varTypes prog).any (prog.mapsRec ·)))=true:=by kernel_rfl
theorem jf15:((Rows.topAliasesRow.ifaces==(f3.params.toList++Rows.topAliasesSpec.plain.varTypes prog).any (prog.ifacesRec ·)))=true:=by kernel_rfl
theorem jf16:((Rows.topAliasesRow.mapsOut==prog.mapsAmong f3.resultTypes.toList))=true:=by kernel_rfl
theorem jf17:((Rows.topAliasesRow.loops==(f3.params.toList++Rows.topAliasesSpec.plain.varTypes prog).any (prog.loopsFrom ·)))=true:=by kernel_rfl
theorem jf18:((Rows.topAliasesRow.wideKeys==(f3.params.toList++Rows.topAliasesSpec.plain.varTypes prog++f3.resultTypes.toList).any (prog.wideKeysFrom ·)))=true:=by kernel_rfl
theorem jf19:(Rows.topAliasesSpec.vars.all (prog.varReadable ·))=true:=by kernel_rfl
theorem jf20:(f3.resultTypes.all (fun t=>prog.readableRec t && decide (t<prog.types.size)))=true:=by kernel_rfl
theorem jf21:((Rows.topAliasesRow.ifacesOut==f3.resultTypes.toList.any (prog.ifacesRec ·)))=true:=by kernel_rfl
theorem jf22:((Rows.topAliasesRow.loopsOut==f3.resultTypes.toList.any (prog.loopsFrom ·)))=true:=by kernel_rfl
theorem jf23:((Rows.topAliasesRow.plainKeys==prog.plainKeys))=true:=by kernel_rfl
theorem jf24:(Rows.topAliasesRow.shortTexts.isNone)=true:=by kernel_rfl
theorem jf25:(prog.stopsHeard)=true:=by kernel_rfl
theorem jf26:(prog.mayEnter)=true:=by kernel_rfl
theorem jf27:((Rows.topAliasesRow.lifted==prog.liftsFinal))=true:=by kernel_rfl
theorem jf28:((prog.make==some Rows.topAliasesRow.make))=true:=by kernel_rfl
theorem jf29:((Rows.topAliasesRow.kinds==(if Rows.topAliasesRow.domain.isEmpty then [] else f3.params.toList.map fun t=>match prog.underlying t with | some (.int k)=>some k | _=>none)))=true:=by kernel_rfl
theorem jf30:((Rows.topAliasesRow.pinned==Rows.topAliasesRow.pinnedBy))=true:=by kernel_rfl
theorem jf31:((Rows.topAliasesRow.veiled==(f3.params.toList++Rows.topAliasesSpec.plain.varTypes prog++f3.resultTypes.toList).any (prog.veiledRec ·)))=true:=by kernel_rfl
theorem jf32:(Rows.topAliasesRow.veiledFits prog f3.params.toList (f3.params.toList++Rows.topAliasesSpec.plain.varTypes prog++f3.resultTypes.toList))=true:=by kernel_rfl
end Go.Proofs.YtnlpccoigflheaaGreatDoor
