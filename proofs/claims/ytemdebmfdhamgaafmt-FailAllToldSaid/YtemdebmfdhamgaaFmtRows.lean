/-
  NARROWER THAN 'FOR EVERY INPUT', by the rows' own cells (each row's printed sentence says how): FailWhere: laid · FailAll: laid.
  DERIVED. THE GIVEN ROWS OF THIS SEAT. 2 by the template 'for every input the law returns true; each argument reads behind the call as it read before'; 0 by the template 'total and deterministic' (their statements: YtemdebmfdhamgaaFmtTotals.lean).
  GIVEN WITH THE SEED: the statements are not yours to turn. If you find one false, say at which input.
  Laid BY PROGRAM, IN A SANDBOX (cutbox-rows.mjs): the forced cells as the released guide's own fill.sh prints them over the translation d5e9659ab22fc47f… (all of the seat's roots in one cut). By AI agents, Wed Nov 11 2026. No macro, syntax, notation, axiom, sorry.
-/
import Derived.Test.YtemdebmfdhamgaaFmtChecked
import GoSem.Claim
import GoSem.ClaimJoined
import GoSem.ClaimMapViews
import Derived.JoinedTies
import Derived.KernelRfl
namespace Go.Proofs.YtemdebmfdhamgaaFmt
/- THE CELL 'sum', in the pinned program and in every row, IS THE sha256 OF THE DUMP (.gsa) THAT YtemdebmfdhamgaaFmtProg.lean LOADS. Nothing in Lean hashes anything: it is a label: what it is worth is what the hold of that sum in a sandbox is worth. -/
noncomputable def Tryf.pinned : Pinned := { name := "ytemdebmfdhamgaafmt", sum := "d5e9659ab22fc47f6997a37a8ee4f7dd5853d18fbb859bf78d69375ced48eb52", checked := Tryf.checked }
namespace Rows
def none {H : Type} : Left H := { results := [], args := [] }

/- WHAT THE LISTED PACKAGE-LEVEL VARIABLES READ AS WHEN THE CALL BEGINS. Each datum BY PROGRAM (the guide's laid-datum.mjs) off the statement by which the dump's own 'gosem.cut.vars' lays the variable. In a bare row this is a premise. The card (YtemdebmfdhamgaaFmtCards.lean) ties it to the program's text. -/
def laid_errors_errorType {H : Type} : DataW H := .iface "internal/reflectlite.rtype" (.agg [.ptr (.lit (.string [101, 114, 114, 111, 114]))])

/-- 'fieldfarelaw1.FailWhere': WHATEVER THE INPUT: true; the input reads as it did. -/
def failWhereSpec : ChangeSpec := { name := "failWhere", fn := fun _ => fun
  | [d1, d2, d3] => { results := [.lit (.bool true)], args := [d1, d2, d3] }
  | _ => none }
def failWhereRow : OpenClaim := { program := "ytemdebmfdhamgaafmt", sum := "d5e9659ab22fc47f6997a37a8ee4f7dd5853d18fbb859bf78d69375ced48eb52", func := "fieldfare/fieldfarelaw1.FailWhere", spec := "failWhere", stops := ["fmt.errorf, its operands' methods called"], inPlace := ["internal/reflectlite.ValueOf", "(internal/reflectlite.Value).Type", "(internal/reflectlite.Value).IsNil", "internal/reflectlite.TypeOf", "(internal/reflectlite.Value).Elem", "(internal/reflectlite.Value).Set", "fmt.errorf"], unfollowed := true, recurses := true, named := ["errors.errorType"], apart := false, laid := [("errors.errorType", laid_errors_errorType)] }
/-- NO THEOREM (fmt's text is open here; it may be false): for the released tool's asking of the row's closed facts alone. THE STATEMENT IS 'FailWhereToldSaid' (YtemdebmfdhamgaaFmtCards.lean). -/
def FailWhereFormAsk : Prop := failWhereRow.holds Tryf.pinned (OpenSpec.ofChange failWhereSpec)

/-- ITS FALSE NEIGHBOUR: 'it returns false'. Refute it at one input. -/
def failWhereWrong : ChangeSpec := { name := "failWhere", fn := fun _ => fun
  | [d1, d2, d3] => { results := [.lit (.bool false)], args := [d1, d2, d3] }
  | _ => none }
def FailWhereWrongFormAsk : Prop := failWhereRow.holds Tryf.pinned (OpenSpec.ofChange failWhereWrong)

/-- 'fieldfarelaw1.FailAll': WHATEVER THE INPUT: true; the input reads as it did. -/
def failAllSpec : ChangeSpec := { name := "failAll", fn := fun _ => fun
  | [d1, d2] => { results := [.lit (.bool true)], args := [d1, d2] }
  | _ => none }
def failAllRow : OpenClaim := { program := "ytemdebmfdhamgaafmt", sum := "d5e9659ab22fc47f6997a37a8ee4f7dd5853d18fbb859bf78d69375ced48eb52", func := "fieldfare/fieldfarelaw1.FailAll", spec := "failAll", stops := ["fmt.errorf, its operands' methods called"], inPlace := ["internal/reflectlite.ValueOf", "(internal/reflectlite.Value).Type", "(internal/reflectlite.Value).IsNil", "internal/reflectlite.TypeOf", "(internal/reflectlite.Value).Elem", "(internal/reflectlite.Value).Set", "fmt.errorf"], unfollowed := true, recurses := true, named := ["errors.errorType"], apart := false, laid := [("errors.errorType", laid_errors_errorType)] }
/-- NO THEOREM (fmt's text is open here; it may be false): for the released tool's asking of the row's closed facts alone. THE STATEMENT IS 'FailAllToldSaid' (YtemdebmfdhamgaaFmtCards.lean). -/
def FailAllFormAsk : Prop := failAllRow.holds Tryf.pinned (OpenSpec.ofChange failAllSpec)

/-- ITS FALSE NEIGHBOUR: 'it returns false'. Refute it at one input. -/
def failAllWrong : ChangeSpec := { name := "failAll", fn := fun _ => fun
  | [d1, d2] => { results := [.lit (.bool false)], args := [d1, d2] }
  | _ => none }
def FailAllWrongFormAsk : Prop := failAllRow.holds Tryf.pinned (OpenSpec.ofChange failAllWrong)

end Rows
end Go.Proofs.YtemdebmfdhamgaaFmt
