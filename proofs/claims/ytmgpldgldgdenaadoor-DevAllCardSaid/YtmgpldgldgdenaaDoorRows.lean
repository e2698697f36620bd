/-
  NARROWER THAN 'FOR EVERY INPUT', by the rows' own cells (each row's printed sentence says how): DevOwn: laid · BinAll: laid · BinLeast: laid · BinCut: laid · BinText: laid · BinUnlike: laid · DevLoose: laid · DevAgain: laid · DevAll: laid · DevFuse: laid · PartsNone: laid · DevBad: laid · FailNone: laid.
  DERIVED. THE GIVEN ROWS OF THIS SEAT. 13 by the template 'for every input the law returns true; each argument reads behind the call as it read before'; 0 by the template 'total and deterministic' (their statements: YtmgpldgldgdenaaDoorTotals.lean).
  GIVEN WITH THE SEED: the statements are not yours to turn. If you find one false, say at which input.
  Laid BY PROGRAM, IN A SANDBOX (cutbox-rows.mjs): the forced cells as the released guide's own fill.sh prints them over the translation 1152e1e5600f98e4… (all of the seat's roots in one cut). By AI agents, Wed Nov 11 2026. No macro, syntax, notation, axiom, sorry.
-/
import Derived.Test.YtmgpldgldgdenaaDoorChecked
import GoSem.Claim
import GoSem.ClaimJoined
import GoSem.ClaimMapViews
import Derived.JoinedTies
import Derived.KernelRfl
namespace Go.Proofs.YtmgpldgldgdenaaDoor
/- THE CELL 'sum', in the pinned program and in every row, IS THE sha256 OF THE DUMP (.gsa) THAT YtmgpldgldgdenaaDoorProg.lean LOADS. Nothing in Lean hashes anything: it is a label: what it is worth is what the hold of that sum in a sandbox is worth. -/
noncomputable def Tryd.pinned : Pinned := { name := "ytmgpldgldgdenaadoor", sum := "1152e1e5600f98e4cda4ff37e58a92740835a4d475f522e1a0707ec09bc4f38d", checked := Tryd.checked }
namespace Rows
def none {H : Type} : Left H := { results := [], args := [] }

/- WHAT THE LISTED PACKAGE-LEVEL VARIABLES READ AS WHEN THE CALL BEGINS. Each datum BY PROGRAM (the guide's laid-datum.mjs) off the statement by which the dump's own 'gosem.cut.vars' lays the variable. In a bare row this is a premise. The card (YtmgpldgldgdenaaDoorCards.lean) ties it to the program's text. -/
def laid_errors_errorType {H : Type} : DataW H := .iface "internal/reflectlite.rtype" (.agg [.ptr (.lit (.string [101, 114, 114, 111, 114]))])

/-- 'fieldfarelaw1.DevOwn': WHATEVER THE INPUT: true; the input reads as it did. -/
def devOwnSpec : ChangeSpec := { name := "devOwn", fn := fun _ => fun
  | [d1, d2, d3] => { results := [.lit (.bool true)], args := [d1, d2, d3] }
  | _ => none }
def devOwnRow : OpenClaim := { program := "ytmgpldgldgdenaadoor", sum := "1152e1e5600f98e4cda4ff37e58a92740835a4d475f522e1a0707ec09bc4f38d", func := "fieldfare/fieldfarelaw1.DevOwn", spec := "devOwn", inPlace := ["internal/reflectlite.ValueOf", "(internal/reflectlite.Value).Type", "(internal/reflectlite.Value).IsNil", "internal/reflectlite.TypeOf", "(internal/reflectlite.Value).Elem", "(internal/reflectlite.Value).Set"], unfollowed := true, recurses := true, named := ["errors.errorType"], apart := false, laid := [("errors.errorType", laid_errors_errorType)] }
def DevOwnSaid : Prop := devOwnRow.holds Tryd.pinned (OpenSpec.ofChange devOwnSpec)

/-- ITS FALSE NEIGHBOUR: 'it returns false'. Refute it at one input. -/
def devOwnWrong : ChangeSpec := { name := "devOwn", fn := fun _ => fun
  | [d1, d2, d3] => { results := [.lit (.bool false)], args := [d1, d2, d3] }
  | _ => none }
def DevOwnWrongFalsely : Prop := devOwnRow.holds Tryd.pinned (OpenSpec.ofChange devOwnWrong)

/-- 'fieldfarelaw1.BinAll': WHATEVER THE INPUT: true; the input reads as it did. -/
def binAllSpec : ChangeSpec := { name := "binAll", fn := fun _ => fun
  | [d1, d2, d3, d4, d5] => { results := [.lit (.bool true)], args := [d1, d2, d3, d4, d5] }
  | _ => none }
def binAllRow : OpenClaim := { program := "ytmgpldgldgdenaadoor", sum := "1152e1e5600f98e4cda4ff37e58a92740835a4d475f522e1a0707ec09bc4f38d", func := "fieldfare/fieldfarelaw1.BinAll", spec := "binAll", inPlace := ["internal/reflectlite.ValueOf", "(internal/reflectlite.Value).Type", "(internal/reflectlite.Value).IsNil", "internal/reflectlite.TypeOf", "(internal/reflectlite.Value).Elem", "(internal/reflectlite.Value).Set"], unfollowed := true, recurses := true, named := ["errors.errorType"], apart := false, laid := [("errors.errorType", laid_errors_errorType)] }
def BinAllSaid : Prop := binAllRow.holds Tryd.pinned (OpenSpec.ofChange binAllSpec)

/-- ITS FALSE NEIGHBOUR: 'it returns false'. Refute it at one input. -/
def binAllWrong : ChangeSpec := { name := "binAll", fn := fun _ => fun
  | [d1, d2, d3, d4, d5] => { results := [.lit (.bool false)], args := [d1, d2, d3, d4, d5] }
  | _ => none }
def BinAllWrongFalsely : Prop := binAllRow.holds Tryd.pinned (OpenSpec.ofChange binAllWrong)

/-- 'fieldfarelaw1.BinLeast': WHATEVER THE INPUT: true; the input reads as it did. -/
def binLeastSpec : ChangeSpec := { name := "binLeast", fn := fun _ => fun
  | [d] => { results := [.lit (.bool true)], args := [d] }
  | _ => none }
def binLeastRow : OpenClaim := { program := "ytmgpldgldgdenaadoor", sum := "1152e1e5600f98e4cda4ff37e58a92740835a4d475f522e1a0707ec09bc4f38d", func := "fieldfare/fieldfarelaw1.BinLeast", spec := "binLeast", inPlace := ["internal/reflectlite.ValueOf", "(internal/reflectlite.Value).Type", "(internal/reflectlite.Value).IsNil", "internal/reflectlite.TypeOf", "(internal/reflectlite.Value).Elem", "(internal/reflectlite.Value).Set"], unfollowed := true, recurses := true, named := ["errors.errorType"], apart := false, laid := [("errors.errorType", laid_errors_errorType)] }
def BinLeastSaid : Prop := binLeastRow.holds Tryd.pinned (OpenSpec.ofChange binLeastSpec)

/-- ITS FALSE NEIGHBOUR: 'it returns false'. Refute it at one input. -/
def binLeastWrong : ChangeSpec := { name := "binLeast", fn := fun _ => fun
  | [d] => { results := [.lit (.bool false)], args := [d] }
  | _ => none }
def BinLeastWrongFalsely : Prop := binLeastRow.holds Tryd.pinned (OpenSpec.ofChange binLeastWrong)

/-- 'fieldfarelaw1.BinCut': WHATEVER THE INPUT: true; the input reads as it did. -/
def binCutSpec : ChangeSpec := { name := "binCut", fn := fun _ => fun
  | [d1, d2] => { results := [.lit (.bool true)], args := [d1, d2] }
  | _ => none }
def binCutRow : OpenClaim := { program := "ytmgpldgldgdenaadoor", sum := "1152e1e5600f98e4cda4ff37e58a92740835a4d475f522e1a0707ec09bc4f38d", func := "fieldfare/fieldfarelaw1.BinCut", spec := "binCut", inPlace := ["internal/reflectlite.ValueOf", "(internal/reflectlite.Value).Type", "(internal/reflectlite.Value).IsNil", "internal/reflectlite.TypeOf", "(internal/reflectlite.Value).Elem", "(internal/reflectlite.Value).Set"], unfollowed := true, recurses := true, named := ["errors.errorType"], apart := false, laid := [("errors.errorType", laid_errors_errorType)] }
def BinCutSaid : Prop := binCutRow.holds Tryd.pinned (OpenSpec.ofChange binCutSpec)

/-- ITS FALSE NEIGHBOUR: 'it returns false'. Refute it at one input. -/
def binCutWrong : ChangeSpec := { name := "binCut", fn := fun _ => fun
  | [d1, d2] => { results := [.lit (.bool false)], args := [d1, d2] }
  | _ => none }
def BinCutWrongFalsely : Prop := binCutRow.holds Tryd.pinned (OpenSpec.ofChange binCutWrong)

/-- 'fieldfarelaw1.BinText': WHATEVER THE INPUT: true; the input reads as it did. -/
def binTextSpec : ChangeSpec := { name := "binText", fn := fun _ => fun
  | [d1, d2, d3] => { results := [.lit (.bool true)], args := [d1, d2, d3] }
  | _ => none }
def binTextRow : OpenClaim := { program := "ytmgpldgldgdenaadoor", sum := "1152e1e5600f98e4cda4ff37e58a92740835a4d475f522e1a0707ec09bc4f38d", func := "fieldfare/fieldfarelaw1.BinText", spec := "binText", inPlace := ["internal/reflectlite.ValueOf", "(internal/reflectlite.Value).Type", "(internal/reflectlite.Value).IsNil", "internal/reflectlite.TypeOf", "(internal/reflectlite.Value).Elem", "(internal/reflectlite.Value).Set"], unfollowed := true, recurses := true, named := ["errors.errorType"], apart := false, laid := [("errors.errorType", laid_errors_errorType)] }
def BinTextSaid : Prop := binTextRow.holds Tryd.pinned (OpenSpec.ofChange binTextSpec)

/-- ITS FALSE NEIGHBOUR: 'it returns false'. Refute it at one input. -/
def binTextWrong : ChangeSpec := { name := "binText", fn := fun _ => fun
  | [d1, d2, d3] => { results := [.lit (.bool false)], args := [d1, d2, d3] }
  | _ => none }
def BinTextWrongFalsely : Prop := binTextRow.holds Tryd.pinned (OpenSpec.ofChange binTextWrong)

/-- 'fieldfarelaw1.BinUnlike': WHATEVER THE INPUT: true; the input reads as it did. -/
def binUnlikeSpec : ChangeSpec := { name := "binUnlike", fn := fun _ => fun
  | [d1, d2] => { results := [.lit (.bool true)], args := [d1, d2] }
  | _ => none }
def binUnlikeRow : OpenClaim := { program := "ytmgpldgldgdenaadoor", sum := "1152e1e5600f98e4cda4ff37e58a92740835a4d475f522e1a0707ec09bc4f38d", func := "fieldfare/fieldfarelaw1.BinUnlike", spec := "binUnlike", inPlace := ["internal/reflectlite.ValueOf", "(internal/reflectlite.Value).Type", "(internal/reflectlite.Value).IsNil", "internal/reflectlite.TypeOf", "(internal/reflectlite.Value).Elem", "(internal/reflectlite.Value).Set"], unfollowed := true, recurses := true, named := ["errors.errorType"], apart := false, laid := [("errors.errorType", laid_errors_errorType)] }
def BinUnlikeSaid : Prop := binUnlikeRow.holds Tryd.pinned (OpenSpec.ofChange binUnlikeSpec)

/-- ITS FALSE NEIGHBOUR: 'it returns false'. Refute it at one input. -/
def binUnlikeWrong : ChangeSpec := { name := "binUnlike", fn := fun _ => fun
  | [d1, d2] => { results := [.lit (.bool false)], args := [d1, d2] }
  | _ => none }
def BinUnlikeWrongFalsely : Prop := binUnlikeRow.holds Tryd.pinned (OpenSpec.ofChange binUnlikeWrong)

/-- 'fieldfarelaw1.DevLoose': WHATEVER THE INPUT: true; the input reads as it did. -/
def devLooseSpec : ChangeSpec := { name := "devLoose", fn := fun _ => fun
  | [d1, d2] => { results := [.lit (.bool true)], args := [d1, d2] }
  | _ => none }
def devLooseRow : OpenClaim := { program := "ytmgpldgldgdenaadoor", sum := "1152e1e5600f98e4cda4ff37e58a92740835a4d475f522e1a0707ec09bc4f38d", func := "fieldfare/fieldfarelaw1.DevLoose", spec := "devLoose", inPlace := ["internal/reflectlite.ValueOf", "(internal/reflectlite.Value).Type", "(internal/reflectlite.Value).IsNil", "internal/reflectlite.TypeOf", "(internal/reflectlite.Value).Elem", "(internal/reflectlite.Value).Set"], unfollowed := true, recurses := true, named := ["errors.errorType"], apart := false, laid := [("errors.errorType", laid_errors_errorType)] }
def DevLooseSaid : Prop := devLooseRow.holds Tryd.pinned (OpenSpec.ofChange devLooseSpec)

/-- ITS FALSE NEIGHBOUR: 'it returns false'. Refute it at one input. -/
def devLooseWrong : ChangeSpec := { name := "devLoose", fn := fun _ => fun
  | [d1, d2] => { results := [.lit (.bool false)], args := [d1, d2] }
  | _ => none }
def DevLooseWrongFalsely : Prop := devLooseRow.holds Tryd.pinned (OpenSpec.ofChange devLooseWrong)

/-- 'fieldfarelaw1.DevAgain': WHATEVER THE INPUT: true; the input reads as it did. -/
def devAgainSpec : ChangeSpec := { name := "devAgain", fn := fun _ => fun
  | [d1, d2] => { results := [.lit (.bool true)], args := [d1, d2] }
  | _ => none }
def devAgainRow : OpenClaim := { program := "ytmgpldgldgdenaadoor", sum := "1152e1e5600f98e4cda4ff37e58a92740835a4d475f522e1a0707ec09bc4f38d", func := "fieldfare/fieldfarelaw1.DevAgain", spec := "devAgain", inPlace := ["internal/reflectlite.ValueOf", "(internal/reflectlite.Value).Type", "(internal/reflectlite.Value).IsNil", "internal/reflectlite.TypeOf", "(internal/reflectlite.Value).Elem", "(internal/reflectlite.Value).Set"], unfollowed := true, recurses := true, named := ["errors.errorType"], apart := false, laid := [("errors.errorType", laid_errors_errorType)] }
def DevAgainSaid : Prop := devAgainRow.holds Tryd.pinned (OpenSpec.ofChange devAgainSpec)

/-- ITS FALSE NEIGHBOUR: 'it returns false'. Refute it at one input. -/
def devAgainWrong : ChangeSpec := { name := "devAgain", fn := fun _ => fun
  | [d1, d2] => { results := [.lit (.bool false)], args := [d1, d2] }
  | _ => none }
def DevAgainWrongFalsely : Prop := devAgainRow.holds Tryd.pinned (OpenSpec.ofChange devAgainWrong)

/-- 'fieldfarelaw1.DevAll': WHATEVER THE INPUT: true; the input reads as it did. -/
def devAllSpec : ChangeSpec := { name := "devAll", fn := fun _ => fun
  | [d1, d2] => { results := [.lit (.bool true)], args := [d1, d2] }
  | _ => none }
def devAllRow : OpenClaim := { program := "ytmgpldgldgdenaadoor", sum := "1152e1e5600f98e4cda4ff37e58a92740835a4d475f522e1a0707ec09bc4f38d", func := "fieldfare/fieldfarelaw1.DevAll", spec := "devAll", inPlace := ["internal/reflectlite.ValueOf", "(internal/reflectlite.Value).Type", "(internal/reflectlite.Value).IsNil", "internal/reflectlite.TypeOf", "(internal/reflectlite.Value).Elem", "(internal/reflectlite.Value).Set"], unfollowed := true, recurses := true, named := ["errors.errorType"], apart := false, laid := [("errors.errorType", laid_errors_errorType)] }
def DevAllSaid : Prop := devAllRow.holds Tryd.pinned (OpenSpec.ofChange devAllSpec)

/-- ITS FALSE NEIGHBOUR: 'it returns false'. Refute it at one input. -/
def devAllWrong : ChangeSpec := { name := "devAll", fn := fun _ => fun
  | [d1, d2] => { results := [.lit (.bool false)], args := [d1, d2] }
  | _ => none }
def DevAllWrongFalsely : Prop := devAllRow.holds Tryd.pinned (OpenSpec.ofChange devAllWrong)

/-- 'fieldfarelaw1.DevFuse': WHATEVER THE INPUT: true; the input reads as it did. -/
def devFuseSpec : ChangeSpec := { name := "devFuse", fn := fun _ => fun
  | [d1, d2] => { results := [.lit (.bool true)], args := [d1, d2] }
  | _ => none }
def devFuseRow : OpenClaim := { program := "ytmgpldgldgdenaadoor", sum := "1152e1e5600f98e4cda4ff37e58a92740835a4d475f522e1a0707ec09bc4f38d", func := "fieldfare/fieldfarelaw1.DevFuse", spec := "devFuse", inPlace := ["internal/reflectlite.ValueOf", "(internal/reflectlite.Value).Type", "(internal/reflectlite.Value).IsNil", "internal/reflectlite.TypeOf", "(internal/reflectlite.Value).Elem", "(internal/reflectlite.Value).Set"], unfollowed := true, recurses := true, named := ["errors.errorType"], apart := false, laid := [("errors.errorType", laid_errors_errorType)] }
def DevFuseSaid : Prop := devFuseRow.holds Tryd.pinned (OpenSpec.ofChange devFuseSpec)

/-- ITS FALSE NEIGHBOUR: 'it returns false'. Refute it at one input. -/
def devFuseWrong : ChangeSpec := { name := "devFuse", fn := fun _ => fun
  | [d1, d2] => { results := [.lit (.bool false)], args := [d1, d2] }
  | _ => none }
def DevFuseWrongFalsely : Prop := devFuseRow.holds Tryd.pinned (OpenSpec.ofChange devFuseWrong)

/-- 'fieldfarelaw1.PartsNone': WHATEVER THE INPUT: true; the input reads as it did. -/
def partsNoneSpec : ChangeSpec := { name := "partsNone", fn := fun _ => fun
  | [] => { results := [.lit (.bool true)], args := [] }
  | _ => none }
def partsNoneRow : OpenClaim := { program := "ytmgpldgldgdenaadoor", sum := "1152e1e5600f98e4cda4ff37e58a92740835a4d475f522e1a0707ec09bc4f38d", func := "fieldfare/fieldfarelaw1.PartsNone", spec := "partsNone", inPlace := ["internal/reflectlite.ValueOf", "(internal/reflectlite.Value).Type", "(internal/reflectlite.Value).IsNil", "internal/reflectlite.TypeOf", "(internal/reflectlite.Value).Elem", "(internal/reflectlite.Value).Set"], unfollowed := true, recurses := true, named := ["errors.errorType"], apart := false, laid := [("errors.errorType", laid_errors_errorType)] }
def PartsNoneSaid : Prop := partsNoneRow.holds Tryd.pinned (OpenSpec.ofChange partsNoneSpec)

/-- ITS FALSE NEIGHBOUR: 'it returns false'. Refute it at one input. -/
def partsNoneWrong : ChangeSpec := { name := "partsNone", fn := fun _ => fun
  | [] => { results := [.lit (.bool false)], args := [] }
  | _ => none }
def PartsNoneWrongFalsely : Prop := partsNoneRow.holds Tryd.pinned (OpenSpec.ofChange partsNoneWrong)

/-- 'fieldfarelaw1.DevBad': WHATEVER THE INPUT: true; the input reads as it did. -/
def devBadSpec : ChangeSpec := { name := "devBad", fn := fun _ => fun
  | [d1, d2, d3] => { results := [.lit (.bool true)], args := [d1, d2, d3] }
  | _ => none }
def devBadRow : OpenClaim := { program := "ytmgpldgldgdenaadoor", sum := "1152e1e5600f98e4cda4ff37e58a92740835a4d475f522e1a0707ec09bc4f38d", func := "fieldfare/fieldfarelaw1.DevBad", spec := "devBad", inPlace := ["internal/reflectlite.ValueOf", "(internal/reflectlite.Value).Type", "(internal/reflectlite.Value).IsNil", "internal/reflectlite.TypeOf", "(internal/reflectlite.Value).Elem", "(internal/reflectlite.Value).Set"], unfollowed := true, recurses := true, named := ["errors.errorType"], apart := false, laid := [("errors.errorType", laid_errors_errorType)] }
def DevBadSaid : Prop := devBadRow.holds Tryd.pinned (OpenSpec.ofChange devBadSpec)

/-- ITS FALSE NEIGHBOUR: 'it returns false'. Refute it at one input. -/
def devBadWrong : ChangeSpec := { name := "devBad", fn := fun _ => fun
  | [d1, d2, d3] => { results := [.lit (.bool false)], args := [d1, d2, d3] }
  | _ => none }
def DevBadWrongFalsely : Prop := devBadRow.holds Tryd.pinned (OpenSpec.ofChange devBadWrong)

/-- 'fieldfarelaw1.FailNone': WHATEVER THE INPUT: true; the input reads as it did. -/
def failNoneSpec : ChangeSpec := { name := "failNone", fn := fun _ => fun
  | [d1, d2, d3] => { results := [.lit (.bool true)], args := [d1, d2, d3] }
  | _ => none }
def failNoneRow : OpenClaim := { program := "ytmgpldgldgdenaadoor", sum := "1152e1e5600f98e4cda4ff37e58a92740835a4d475f522e1a0707ec09bc4f38d", func := "fieldfare/fieldfarelaw1.FailNone", spec := "failNone", inPlace := ["internal/reflectlite.ValueOf", "(internal/reflectlite.Value).Type", "(internal/reflectlite.Value).IsNil", "internal/reflectlite.TypeOf", "(internal/reflectlite.Value).Elem", "(internal/reflectlite.Value).Set"], unfollowed := true, recurses := true, named := ["errors.errorType"], apart := false, laid := [("errors.errorType", laid_errors_errorType)] }
def FailNoneSaid : Prop := failNoneRow.holds Tryd.pinned (OpenSpec.ofChange failNoneSpec)

/-- ITS FALSE NEIGHBOUR: 'it returns false'. Refute it at one input. -/
def failNoneWrong : ChangeSpec := { name := "failNone", fn := fun _ => fun
  | [d1, d2, d3] => { results := [.lit (.bool false)], args := [d1, d2, d3] }
  | _ => none }
def FailNoneWrongFalsely : Prop := failNoneRow.holds Tryd.pinned (OpenSpec.ofChange failNoneWrong)

/- THE SECOND FORM. 'bulk': how many values and letters a reading holds, each counted each time it is reached (what is shared counts as often as it is met; a slice's spare places count too). A statement '..UptoSaid' is the law's where the arguments, and the package variables that the reading takes, are together of bulk at most 1048576: NARROWER than '..Said'. Prove '..Said' where nothing that the law and all that it calls make is longer than what came in: it says more and counts as full. Else prove '..UptoSaid'. A law counts once. -/
mutual
def uptoBulk {H : Type} : DataW H → Nat
  | .lit (.string bytes) => bytes.length + 1
  | .lit _ => 1
  | .nil => 1
  | .ptr d => uptoBulk d + 1
  | .slice elems spare => uptoBulkAll elems + uptoBulkAll spare + 1
  | .agg parts => uptoBulkAll parts + 1
  | .iface _ d => uptoBulk d + 1
  | .map entries => uptoBulkEntries entries + 1
  | .held _ => 1
def uptoBulkAll {H : Type} : List (DataW H) → Nat
  | [] => 0
  | d :: r => uptoBulk d + uptoBulkAll r
def uptoBulkEntries {H : Type} : List (Lit × DataW H) → Nat
  | [] => 0
  | x :: r => uptoBulkEntry x + uptoBulkEntries r
def uptoBulkEntry {H : Type} : Lit × DataW H → Nat
  | (.string bytes, d) => bytes.length + uptoBulk d + 1
  | (_, d) => uptoBulk d + 1
 end
def uptoSmall : (H : Type) → List (DataW H) → Bool := fun _ ds => decide (uptoBulkAll ds ≤ 1048576)
def OpenSpec.upto (s : _root_.Go.ChangeSpec) : _root_.Go.OpenSpec := { _root_.Go.OpenSpec.ofChange s with cond := some uptoSmall }

/-- 'fieldfarelaw1.DevOwn', WHERE WHAT IT READS IS OF BULK AT MOST 1048576: true; the input reads as it did. -/
def devOwnUptoRow : OpenClaim := { program := "ytmgpldgldgdenaadoor", sum := "1152e1e5600f98e4cda4ff37e58a92740835a4d475f522e1a0707ec09bc4f38d", func := "fieldfare/fieldfarelaw1.DevOwn", spec := "devOwn", inPlace := ["internal/reflectlite.ValueOf", "(internal/reflectlite.Value).Type", "(internal/reflectlite.Value).IsNil", "internal/reflectlite.TypeOf", "(internal/reflectlite.Value).Elem", "(internal/reflectlite.Value).Set"], unfollowed := true, recurses := true, named := ["errors.errorType"], apart := false, laid := [("errors.errorType", laid_errors_errorType)], narrowed := true }
def DevOwnUptoSaid : Prop := devOwnUptoRow.holds Tryd.pinned (OpenSpec.upto devOwnSpec)

/-- 'fieldfarelaw1.BinAll', WHERE WHAT IT READS IS OF BULK AT MOST 1048576: true; the input reads as it did. -/
def binAllUptoRow : OpenClaim := { program := "ytmgpldgldgdenaadoor", sum := "1152e1e5600f98e4cda4ff37e58a92740835a4d475f522e1a0707ec09bc4f38d", func := "fieldfare/fieldfarelaw1.BinAll", spec := "binAll", inPlace := ["internal/reflectlite.ValueOf", "(internal/reflectlite.Value).Type", "(internal/reflectlite.Value).IsNil", "internal/reflectlite.TypeOf", "(internal/reflectlite.Value).Elem", "(internal/reflectlite.Value).Set"], unfollowed := true, recurses := true, named := ["errors.errorType"], apart := false, laid := [("errors.errorType", laid_errors_errorType)], narrowed := true }
def BinAllUptoSaid : Prop := binAllUptoRow.holds Tryd.pinned (OpenSpec.upto binAllSpec)

/-- 'fieldfarelaw1.BinLeast', WHERE WHAT IT READS IS OF BULK AT MOST 1048576: true; the input reads as it did. -/
def binLeastUptoRow : OpenClaim := { program := "ytmgpldgldgdenaadoor", sum := "1152e1e5600f98e4cda4ff37e58a92740835a4d475f522e1a0707ec09bc4f38d", func := "fieldfare/fieldfarelaw1.BinLeast", spec := "binLeast", inPlace := ["internal/reflectlite.ValueOf", "(internal/reflectlite.Value).Type", "(internal/reflectlite.Value).IsNil", "internal/reflectlite.TypeOf", "(internal/reflectlite.Value).Elem", "(internal/reflectlite.Value).Set"], unfollowed := true, recurses := true, named := ["errors.errorType"], apart := false, laid := [("errors.errorType", laid_errors_errorType)], narrowed := true }
def BinLeastUptoSaid : Prop := binLeastUptoRow.holds Tryd.pinned (OpenSpec.upto binLeastSpec)

/-- 'fieldfarelaw1.BinCut', WHERE WHAT IT READS IS OF BULK AT MOST 1048576: true; the input reads as it did. -/
def binCutUptoRow : OpenClaim := { program := "ytmgpldgldgdenaadoor", sum := "1152e1e5600f98e4cda4ff37e58a92740835a4d475f522e1a0707ec09bc4f38d", func := "fieldfare/fieldfarelaw1.BinCut", spec := "binCut", inPlace := ["internal/reflectlite.ValueOf", "(internal/reflectlite.Value).Type", "(internal/reflectlite.Value).IsNil", "internal/reflectlite.TypeOf", "(internal/reflectlite.Value).Elem", "(internal/reflectlite.Value).Set"], unfollowed := true, recurses := true, named := ["errors.errorType"], apart := false, laid := [("errors.errorType", laid_errors_errorType)], narrowed := true }
def BinCutUptoSaid : Prop := binCutUptoRow.holds Tryd.pinned (OpenSpec.upto binCutSpec)

/-- 'fieldfarelaw1.BinText', WHERE WHAT IT READS IS OF BULK AT MOST 1048576: true; the input reads as it did. -/
def binTextUptoRow : OpenClaim := { program := "ytmgpldgldgdenaadoor", sum := "1152e1e5600f98e4cda4ff37e58a92740835a4d475f522e1a0707ec09bc4f38d", func := "fieldfare/fieldfarelaw1.BinText", spec := "binText", inPlace := ["internal/reflectlite.ValueOf", "(internal/reflectlite.Value).Type", "(internal/reflectlite.Value).IsNil", "internal/reflectlite.TypeOf", "(internal/reflectlite.Value).Elem", "(internal/reflectlite.Value).Set"], unfollowed := true, recurses := true, named := ["errors.errorType"], apart := false, laid := [("errors.errorType", laid_errors_errorType)], narrowed := true }
def BinTextUptoSaid : Prop := binTextUptoRow.holds Tryd.pinned (OpenSpec.upto binTextSpec)

/-- 'fieldfarelaw1.BinUnlike', WHERE WHAT IT READS IS OF BULK AT MOST 1048576: true; the input reads as it did. -/
def binUnlikeUptoRow : OpenClaim := { program := "ytmgpldgldgdenaadoor", sum := "1152e1e5600f98e4cda4ff37e58a92740835a4d475f522e1a0707ec09bc4f38d", func := "fieldfare/fieldfarelaw1.BinUnlike", spec := "binUnlike", inPlace := ["internal/reflectlite.ValueOf", "(internal/reflectlite.Value).Type", "(internal/reflectlite.Value).IsNil", "internal/reflectlite.TypeOf", "(internal/reflectlite.Value).Elem", "(internal/reflectlite.Value).Set"], unfollowed := true, recurses := true, named := ["errors.errorType"], apart := false, laid := [("errors.errorType", laid_errors_errorType)], narrowed := true }
def BinUnlikeUptoSaid : Prop := binUnlikeUptoRow.holds Tryd.pinned (OpenSpec.upto binUnlikeSpec)

/-- 'fieldfarelaw1.DevLoose', WHERE WHAT IT READS IS OF BULK AT MOST 1048576: true; the input reads as it did. -/
def devLooseUptoRow : OpenClaim := { program := "ytmgpldgldgdenaadoor", sum := "1152e1e5600f98e4cda4ff37e58a92740835a4d475f522e1a0707ec09bc4f38d", func := "fieldfare/fieldfarelaw1.DevLoose", spec := "devLoose", inPlace := ["internal/reflectlite.ValueOf", "(internal/reflectlite.Value).Type", "(internal/reflectlite.Value).IsNil", "internal/reflectlite.TypeOf", "(internal/reflectlite.Value).Elem", "(internal/reflectlite.Value).Set"], unfollowed := true, recurses := true, named := ["errors.errorType"], apart := false, laid := [("errors.errorType", laid_errors_errorType)], narrowed := true }
def DevLooseUptoSaid : Prop := devLooseUptoRow.holds Tryd.pinned (OpenSpec.upto devLooseSpec)

/-- 'fieldfarelaw1.DevAgain', WHERE WHAT IT READS IS OF BULK AT MOST 1048576: true; the input reads as it did. -/
def devAgainUptoRow : OpenClaim := { program := "ytmgpldgldgdenaadoor", sum := "1152e1e5600f98e4cda4ff37e58a92740835a4d475f522e1a0707ec09bc4f38d", func := "fieldfare/fieldfarelaw1.DevAgain", spec := "devAgain", inPlace := ["internal/reflectlite.ValueOf", "(internal/reflectlite.Value).Type", "(internal/reflectlite.Value).IsNil", "internal/reflectlite.TypeOf", "(internal/reflectlite.Value).Elem", "(internal/reflectlite.Value).Set"], unfollowed := true, recurses := true, named := ["errors.errorType"], apart := false, laid := [("errors.errorType", laid_errors_errorType)], narrowed := true }
def DevAgainUptoSaid : Prop := devAgainUptoRow.holds Tryd.pinned (OpenSpec.upto devAgainSpec)

/-- 'fieldfarelaw1.DevAll', WHERE WHAT IT READS IS OF BULK AT MOST 1048576: true; the input reads as it did. -/
def devAllUptoRow : OpenClaim := { program := "ytmgpldgldgdenaadoor", sum := "1152e1e5600f98e4cda4ff37e58a92740835a4d475f522e1a0707ec09bc4f38d", func := "fieldfare/fieldfarelaw1.DevAll", spec := "devAll", inPlace := ["internal/reflectlite.ValueOf", "(internal/reflectlite.Value).Type", "(internal/reflectlite.Value).IsNil", "internal/reflectlite.TypeOf", "(internal/reflectlite.Value).Elem", "(internal/reflectlite.Value).Set"], unfollowed := true, recurses := true, named := ["errors.errorType"], apart := false, laid := [("errors.errorType", laid_errors_errorType)], narrowed := true }
def DevAllUptoSaid : Prop := devAllUptoRow.holds Tryd.pinned (OpenSpec.upto devAllSpec)

/-- 'fieldfarelaw1.DevFuse', WHERE WHAT IT READS IS OF BULK AT MOST 1048576: true; the input reads as it did. -/
def devFuseUptoRow : OpenClaim := { program := "ytmgpldgldgdenaadoor", sum := "1152e1e5600f98e4cda4ff37e58a92740835a4d475f522e1a0707ec09bc4f38d", func := "fieldfare/fieldfarelaw1.DevFuse", spec := "devFuse", inPlace := ["internal/reflectlite.ValueOf", "(internal/reflectlite.Value).Type", "(internal/reflectlite.Value).IsNil", "internal/reflectlite.TypeOf", "(internal/reflectlite.Value).Elem", "(internal/reflectlite.Value).Set"], unfollowed := true, recurses := true, named := ["errors.errorType"], apart := false, laid := [("errors.errorType", laid_errors_errorType)], narrowed := true }
def DevFuseUptoSaid : Prop := devFuseUptoRow.holds Tryd.pinned (OpenSpec.upto devFuseSpec)

/-- 'fieldfarelaw1.PartsNone', WHERE WHAT IT READS IS OF BULK AT MOST 1048576: true; the input reads as it did. -/
def partsNoneUptoRow : OpenClaim := { program := "ytmgpldgldgdenaadoor", sum := "1152e1e5600f98e4cda4ff37e58a92740835a4d475f522e1a0707ec09bc4f38d", func := "fieldfare/fieldfarelaw1.PartsNone", spec := "partsNone", inPlace := ["internal/reflectlite.ValueOf", "(internal/reflectlite.Value).Type", "(internal/reflectlite.Value).IsNil", "internal/reflectlite.TypeOf", "(internal/reflectlite.Value).Elem", "(internal/reflectlite.Value).Set"], unfollowed := true, recurses := true, named := ["errors.errorType"], apart := false, laid := [("errors.errorType", laid_errors_errorType)], narrowed := true }
def PartsNoneUptoSaid : Prop := partsNoneUptoRow.holds Tryd.pinned (OpenSpec.upto partsNoneSpec)

/-- 'fieldfarelaw1.DevBad', WHERE WHAT IT READS IS OF BULK AT MOST 1048576: true; the input reads as it did. -/
def devBadUptoRow : OpenClaim := { program := "ytmgpldgldgdenaadoor", sum := "1152e1e5600f98e4cda4ff37e58a92740835a4d475f522e1a0707ec09bc4f38d", func := "fieldfare/fieldfarelaw1.DevBad", spec := "devBad", inPlace := ["internal/reflectlite.ValueOf", "(internal/reflectlite.Value).Type", "(internal/reflectlite.Value).IsNil", "internal/reflectlite.TypeOf", "(internal/reflectlite.Value).Elem", "(internal/reflectlite.Value).Set"], unfollowed := true, recurses := true, named := ["errors.errorType"], apart := false, laid := [("errors.errorType", laid_errors_errorType)], narrowed := true }
def DevBadUptoSaid : Prop := devBadUptoRow.holds Tryd.pinned (OpenSpec.upto devBadSpec)

/-- 'fieldfarelaw1.FailNone', WHERE WHAT IT READS IS OF BULK AT MOST 1048576: true; the input reads as it did. -/
def failNoneUptoRow : OpenClaim := { program := "ytmgpldgldgdenaadoor", sum := "1152e1e5600f98e4cda4ff37e58a92740835a4d475f522e1a0707ec09bc4f38d", func := "fieldfare/fieldfarelaw1.FailNone", spec := "failNone", inPlace := ["internal/reflectlite.ValueOf", "(internal/reflectlite.Value).Type", "(internal/reflectlite.Value).IsNil", "internal/reflectlite.TypeOf", "(internal/reflectlite.Value).Elem", "(internal/reflectlite.Value).Set"], unfollowed := true, recurses := true, named := ["errors.errorType"], apart := false, laid := [("errors.errorType", laid_errors_errorType)], narrowed := true }
def FailNoneUptoSaid : Prop := failNoneUptoRow.holds Tryd.pinned (OpenSpec.upto failNoneSpec)

end Rows
end Go.Proofs.YtmgpldgldgdenaaDoor
