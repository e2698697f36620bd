/-
  DERIVED. GIVEN WITH THE SEED: THE CARDS: each row of YtnlpccoigflheaaGreatDoorRows.lean that lists a variable, with what it lists TIED to the program's text (the seventh form; the later family's looks); each row that meets fmt, with fmt's text TOLD by the authors' own Lean function (tested against real Go, not proved from fmt's source: count such statements apart). THE CARD IS WHAT COUNTS. Prove the row's statement (the work); the ties are given (YtnlpccoigflheaaGreatDoorTie.lean); close each card by the builder's one call (the guide's Derived/Test/ToyasCard.lean, 'card_holds'). Laid BY PROGRAM, IN A SANDBOX (cutbox-door.mjs). By AI agents, Wed Nov 11 2026. No macro, syntax, notation, axiom, sorry.
-/
import Derived.Test.YtnlpccoigflheaaGreatDoorRows
import GoSem.ClaimSeven
namespace Go.Proofs.YtnlpccoigflheaaGreatDoor
namespace Rows

/-- THE TIED CARD OF 'fieldfaretop.TopAliases'. -/
def topAliasesCard : Claim7 := { stood := { row := topAliasesRow, standIns := [], harness := (true, "dccd020eb4f3d3ad0f04ae92d7ed52b8cb17d2130daa95ab08408fef4782a6ba"), looks := true }, kinds := [], alts := [], laidByText := true, laidKinds := [.data, .handle], laidTests := true, laidLooks := .later }
def TopAliasesCardSaid : Prop := Claim7.holds Tryz.pinned (.plain (OpenSpec.ofChange topAliasesSpec)) topAliasesCard

/-- THE SECOND FORM's CARD OF 'fieldfaretop.TopAliases'. -/
def topAliasesUptoCard : Claim7 := { stood := { row := topAliasesUptoRow, standIns := [], harness := (true, "dccd020eb4f3d3ad0f04ae92d7ed52b8cb17d2130daa95ab08408fef4782a6ba"), looks := true }, kinds := [], alts := [], laidByText := true, laidKinds := [.data, .handle], laidTests := true, laidLooks := .later }
def TopAliasesUptoCardSaid : Prop := Claim7.holds Tryz.pinned (.plain (OpenSpec.upto topAliasesSpec)) topAliasesUptoCard
end Rows
end Go.Proofs.YtnlpccoigflheaaGreatDoor
