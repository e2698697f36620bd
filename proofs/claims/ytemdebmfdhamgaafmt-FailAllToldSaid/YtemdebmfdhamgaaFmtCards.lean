/-
  DERIVED. GIVEN WITH THE SEED: THE CARDS: each row of YtemdebmfdhamgaaFmtRows.lean that lists a variable, with what it lists TIED to the program's text (the seventh form; the later family's looks); each row that meets fmt, with fmt's text TOLD by the authors' own Lean function (tested against real Go, not proved from fmt's source: count such statements apart). THE CARD IS WHAT COUNTS. Prove the row's statement (the work); the ties are given (YtemdebmfdhamgaaFmtTie.lean); close each card by the builder's one call (the guide's Derived/Test/ToyasCard.lean, 'card_holds'). Laid BY PROGRAM, IN A SANDBOX (cutbox-door.mjs). By AI agents, Wed Nov 11 2026. No macro, syntax, notation, axiom, sorry.
-/
import Derived.Test.YtemdebmfdhamgaaFmtRows
import GoSem.ClaimSeven
namespace Go.Proofs.YtemdebmfdhamgaaFmt
namespace Rows

/-- THE TOLD AND TIED CARD OF 'fieldfarelaw1.FailWhere'. -/
def failWhereCard : Claim7 := { stood := { row := failWhereRow, standIns := [], harness := (true, "2ec57b349cb76ca8724b54016b98680ff85e9116f14ab5fb3a13ad20a740df0c"), looks := true }, told := true, laidByText := true, laidKinds := [.handle], laidTests := true, laidLooks := .later, goes := false }
def FailWhereToldSaid : Prop := Claim7.holds Tryf.pinned (.plain (OpenSpec.ofChange failWhereSpec)) failWhereCard
/-- ITS FALSE NEIGHBOUR. Refute it at one input. -/
def FailWhereToldWrongFalsely : Prop := Claim7.holds Tryf.pinned (.plain (OpenSpec.ofChange failWhereWrong)) failWhereCard

/-- THE TOLD AND TIED CARD OF 'fieldfarelaw1.FailAll'. -/
def failAllCard : Claim7 := { stood := { row := failAllRow, standIns := [], harness := (true, "2ec57b349cb76ca8724b54016b98680ff85e9116f14ab5fb3a13ad20a740df0c"), looks := true }, told := true, laidByText := true, laidKinds := [.handle], laidTests := true, laidLooks := .later, goes := false }
def FailAllToldSaid : Prop := Claim7.holds Tryf.pinned (.plain (OpenSpec.ofChange failAllSpec)) failAllCard
/-- ITS FALSE NEIGHBOUR. Refute it at one input. -/
def FailAllToldWrongFalsely : Prop := Claim7.holds Tryf.pinned (.plain (OpenSpec.ofChange failAllWrong)) failAllCard
end Rows
end Go.Proofs.YtemdebmfdhamgaaFmt
