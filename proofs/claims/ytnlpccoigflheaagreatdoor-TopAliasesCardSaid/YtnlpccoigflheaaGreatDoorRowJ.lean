/- RowJ -/
import Derived.Test.YtnlpccoigflheaaGreatDoorRowJ1
import Derived.Test.YtnlpccoigflheaaGreatDoorRowJ2
import Derived.Test.YtnlpccoigflheaaGreatDoorFac
namespace Go.Proofs.YtnlpccoigflheaaGreatDoor
open Go.ChangeShapes Go.WideShapes
open Go.Proofs.Tryz
theorem band {a b:Bool}(h:a=true)(k:b=true):(a && b)=true:=by rw [h,k];rfl
set_option maxRecDepth 100000 in
theorem jfAll:joinedFacts prog 3 f3 Rows.topAliasesSpec Rows.topAliasesRow=true:=band (band (band (band (band (band (band (band (band (band (band (band (band (band (band (band (band (band (band (band (band (band (band (band (band (band (band (band (band (band (band jf1 jf2) jf3) jf4) jf5) jf6) jf7) jf8) jf9) jf10) jf11) jf12) jf13) jf14) jf15) jf16) jf17) jf18) jf19) jf20) jf21) jf22) jf23) jf24) jf25) jf26) jf27) jf28) jf29) jf30) jf31) jf32
theorem jfNamed:prog.funcNamed "fieldfare/fieldfaretop.TopAliases" = some 3:=by kernel_rfl
theorem jfText:Rows.topAliasesRow.wfByText (OpenSpec.ofChange Rows.topAliasesSpec)=true:=by kernel_rfl
theorem jfMain:prog.mainIs=some (true, "dccd020eb4f3d3ad0f04ae92d7ed52b8cb17d2130daa95ab08408fef4782a6ba".toList):=by kernel_rfl
theorem jfLooks:true=prog.looks []:=by kernel_rfl
end Go.Proofs.YtnlpccoigflheaaGreatDoor
