/-
  NARROWER THAN 'FOR EVERY INPUT', by the rows' own cells (each row's printed sentence says how): LogFull: laid · LogRounds: laid · KeptNone: laid · SlotLong: laid · SlotAfter: laid · SlotTakes: laid · LogOwn: laid · SnapTwo: laid · SnapBad: laid · SlotAll: laid · SlotMake: laid · SlotFirst: laid · LogAll: laid · SnapAll: laid · LogCut: laid · LogReset: laid · LogOn: laid · LogNew: laid.
  DERIVED. THE GIVEN ROWS OF THIS SEAT. 18 by the template 'for every input the law returns true; each argument reads behind the call as it read before'; 0 by the template 'total and deterministic' (their statements: YtpnhonhjheahhaaDoorTotals.lean).
  GIVEN WITH THE SEED: the statements are not yours to turn. If you find one false, say at which input.
  Laid BY PROGRAM, IN A SANDBOX (cutbox-rows.mjs): the forced cells as the released guide's own fill.sh prints them over the translation 56b9395db86219c2… (all of the seat's roots in one cut). By AI agents, Wed Nov 11 2026. No macro, syntax, notation, axiom, sorry.
-/
import Derived.Test.YtpnhonhjheahhaaDoorChecked
import GoSem.Claim
import GoSem.ClaimJoined
import GoSem.ClaimMapViews
import Derived.JoinedTies
import Derived.KernelRfl
namespace Go.Proofs.YtpnhonhjheahhaaDoor
/- THE CELL 'sum', in the pinned program and in every row, IS THE sha256 OF THE DUMP (.gsa) THAT YtpnhonhjheahhaaDoorProg.lean LOADS. Nothing in Lean hashes anything: it is a label: what it is worth is what the hold of that sum in a sandbox is worth. -/
noncomputable def Tryd.pinned : Pinned := { name := "ytpnhonhjheahhaadoor", sum := "56b9395db86219c2a9b5c75af22f33e9be101819b4296df1eb9a860efe24bd55", checked := Tryd.checked }
namespace Rows
def none {H : Type} : Left H := { results := [], args := [] }

/- WHAT THE LISTED PACKAGE-LEVEL VARIABLES READ AS WHEN THE CALL BEGINS. Each datum BY PROGRAM (the guide's laid-datum.mjs) off the statement by which the dump's own 'gosem.cut.vars' lays the variable. In a bare row this is a premise. The card (YtpnhonhjheahhaaDoorCards.lean) ties it to the program's text. -/
def laid_errors_errorType {H : Type} : DataW H := .iface "internal/reflectlite.rtype" (.agg [.ptr (.lit (.string [101, 114, 114, 111, 114]))])

/-- 'fieldfarelaw4.LogFull': WHATEVER THE INPUT: true; the input reads as it did. -/
def logFullSpec : ChangeSpec := { name := "logFull", fn := fun _ => fun
  | [d1, d2] => { results := [.lit (.bool true)], args := [d1, d2] }
  | _ => none }
def logFullRow : OpenClaim := { program := "ytpnhonhjheahhaadoor", sum := "56b9395db86219c2a9b5c75af22f33e9be101819b4296df1eb9a860efe24bd55", func := "fieldfare/fieldfarelaw4.LogFull", spec := "logFull", inPlace := ["internal/reflectlite.ValueOf", "(internal/reflectlite.Value).Type", "(internal/reflectlite.Value).IsNil", "internal/reflectlite.TypeOf", "(internal/reflectlite.Value).Elem", "(internal/reflectlite.Value).Set"], unfollowed := true, recurses := true, named := ["errors.errorType"], apart := false, laid := [("errors.errorType", laid_errors_errorType)] }
def LogFullSaid : Prop := logFullRow.holds Tryd.pinned (OpenSpec.ofChange logFullSpec)

/-- ITS FALSE NEIGHBOUR: 'it returns false'. Refute it at one input. -/
def logFullWrong : ChangeSpec := { name := "logFull", fn := fun _ => fun
  | [d1, d2] => { results := [.lit (.bool false)], args := [d1, d2] }
  | _ => none }
def LogFullWrongFalsely : Prop := logFullRow.holds Tryd.pinned (OpenSpec.ofChange logFullWrong)

/-- 'fieldfarelaw4.LogRounds': WHATEVER THE INPUT: true; the input reads as it did. -/
def logRoundsSpec : ChangeSpec := { name := "logRounds", fn := fun _ => fun
  | [d1, d2, d3, d4] => { results := [.lit (.bool true)], args := [d1, d2, d3, d4] }
  | _ => none }
def logRoundsRow : OpenClaim := { program := "ytpnhonhjheahhaadoor", sum := "56b9395db86219c2a9b5c75af22f33e9be101819b4296df1eb9a860efe24bd55", func := "fieldfare/fieldfarelaw4.LogRounds", spec := "logRounds", inPlace := ["internal/reflectlite.ValueOf", "(internal/reflectlite.Value).Type", "(internal/reflectlite.Value).IsNil", "internal/reflectlite.TypeOf", "(internal/reflectlite.Value).Elem", "(internal/reflectlite.Value).Set"], unfollowed := true, recurses := true, named := ["errors.errorType"], apart := false, laid := [("errors.errorType", laid_errors_errorType)] }
def LogRoundsSaid : Prop := logRoundsRow.holds Tryd.pinned (OpenSpec.ofChange logRoundsSpec)

/-- ITS FALSE NEIGHBOUR: 'it returns false'. Refute it at one input. -/
def logRoundsWrong : ChangeSpec := { name := "logRounds", fn := fun _ => fun
  | [d1, d2, d3, d4] => { results := [.lit (.bool false)], args := [d1, d2, d3, d4] }
  | _ => none }
def LogRoundsWrongFalsely : Prop := logRoundsRow.holds Tryd.pinned (OpenSpec.ofChange logRoundsWrong)

/-- 'fieldfarelaw4.KeptNone': WHATEVER THE INPUT: true; the input reads as it did. -/
def keptNoneSpec : ChangeSpec := { name := "keptNone", fn := fun _ => fun
  | [] => { results := [.lit (.bool true)], args := [] }
  | _ => none }
def keptNoneRow : OpenClaim := { program := "ytpnhonhjheahhaadoor", sum := "56b9395db86219c2a9b5c75af22f33e9be101819b4296df1eb9a860efe24bd55", func := "fieldfare/fieldfarelaw4.KeptNone", spec := "keptNone", inPlace := ["internal/reflectlite.ValueOf", "(internal/reflectlite.Value).Type", "(internal/reflectlite.Value).IsNil", "internal/reflectlite.TypeOf", "(internal/reflectlite.Value).Elem", "(internal/reflectlite.Value).Set"], unfollowed := true, recurses := true, named := ["errors.errorType"], apart := false, laid := [("errors.errorType", laid_errors_errorType)] }
def KeptNoneSaid : Prop := keptNoneRow.holds Tryd.pinned (OpenSpec.ofChange keptNoneSpec)

/-- ITS FALSE NEIGHBOUR: 'it returns false'. Refute it at one input. -/
def keptNoneWrong : ChangeSpec := { name := "keptNone", fn := fun _ => fun
  | [] => { results := [.lit (.bool false)], args := [] }
  | _ => none }
def KeptNoneWrongFalsely : Prop := keptNoneRow.holds Tryd.pinned (OpenSpec.ofChange keptNoneWrong)

/-- 'fieldfarelaw4.SlotLong': WHATEVER THE INPUT: true; the input reads as it did. -/
def slotLongSpec : ChangeSpec := { name := "slotLong", fn := fun _ => fun
  | [d1, d2, d3] => { results := [.lit (.bool true)], args := [d1, d2, d3] }
  | _ => none }
def slotLongRow : OpenClaim := { program := "ytpnhonhjheahhaadoor", sum := "56b9395db86219c2a9b5c75af22f33e9be101819b4296df1eb9a860efe24bd55", func := "fieldfare/fieldfarelaw4.SlotLong", spec := "slotLong", inPlace := ["internal/reflectlite.ValueOf", "(internal/reflectlite.Value).Type", "(internal/reflectlite.Value).IsNil", "internal/reflectlite.TypeOf", "(internal/reflectlite.Value).Elem", "(internal/reflectlite.Value).Set"], unfollowed := true, recurses := true, named := ["errors.errorType"], apart := false, laid := [("errors.errorType", laid_errors_errorType)] }
def SlotLongSaid : Prop := slotLongRow.holds Tryd.pinned (OpenSpec.ofChange slotLongSpec)

/-- ITS FALSE NEIGHBOUR: 'it returns false'. Refute it at one input. -/
def slotLongWrong : ChangeSpec := { name := "slotLong", fn := fun _ => fun
  | [d1, d2, d3] => { results := [.lit (.bool false)], args := [d1, d2, d3] }
  | _ => none }
def SlotLongWrongFalsely : Prop := slotLongRow.holds Tryd.pinned (OpenSpec.ofChange slotLongWrong)

/-- 'fieldfarelaw4.SlotAfter': WHATEVER THE INPUT: true; the input reads as it did. -/
def slotAfterSpec : ChangeSpec := { name := "slotAfter", fn := fun _ => fun
  | [d1, d2, d3, d4] => { results := [.lit (.bool true)], args := [d1, d2, d3, d4] }
  | _ => none }
def slotAfterRow : OpenClaim := { program := "ytpnhonhjheahhaadoor", sum := "56b9395db86219c2a9b5c75af22f33e9be101819b4296df1eb9a860efe24bd55", func := "fieldfare/fieldfarelaw4.SlotAfter", spec := "slotAfter", inPlace := ["internal/reflectlite.ValueOf", "(internal/reflectlite.Value).Type", "(internal/reflectlite.Value).IsNil", "internal/reflectlite.TypeOf", "(internal/reflectlite.Value).Elem", "(internal/reflectlite.Value).Set"], unfollowed := true, recurses := true, named := ["errors.errorType"], apart := false, laid := [("errors.errorType", laid_errors_errorType)] }
def SlotAfterSaid : Prop := slotAfterRow.holds Tryd.pinned (OpenSpec.ofChange slotAfterSpec)

/-- ITS FALSE NEIGHBOUR: 'it returns false'. Refute it at one input. -/
def slotAfterWrong : ChangeSpec := { name := "slotAfter", fn := fun _ => fun
  | [d1, d2, d3, d4] => { results := [.lit (.bool false)], args := [d1, d2, d3, d4] }
  | _ => none }
def SlotAfterWrongFalsely : Prop := slotAfterRow.holds Tryd.pinned (OpenSpec.ofChange slotAfterWrong)

/-- 'fieldfarelaw4.SlotTakes': WHATEVER THE INPUT: true; the input reads as it did. -/
def slotTakesSpec : ChangeSpec := { name := "slotTakes", fn := fun _ => fun
  | [d1, d2] => { results := [.lit (.bool true)], args := [d1, d2] }
  | _ => none }
def slotTakesRow : OpenClaim := { program := "ytpnhonhjheahhaadoor", sum := "56b9395db86219c2a9b5c75af22f33e9be101819b4296df1eb9a860efe24bd55", func := "fieldfare/fieldfarelaw4.SlotTakes", spec := "slotTakes", inPlace := ["internal/reflectlite.ValueOf", "(internal/reflectlite.Value).Type", "(internal/reflectlite.Value).IsNil", "internal/reflectlite.TypeOf", "(internal/reflectlite.Value).Elem", "(internal/reflectlite.Value).Set"], unfollowed := true, recurses := true, named := ["errors.errorType"], apart := false, laid := [("errors.errorType", laid_errors_errorType)] }
def SlotTakesSaid : Prop := slotTakesRow.holds Tryd.pinned (OpenSpec.ofChange slotTakesSpec)

/-- ITS FALSE NEIGHBOUR: 'it returns false'. Refute it at one input. -/
def slotTakesWrong : ChangeSpec := { name := "slotTakes", fn := fun _ => fun
  | [d1, d2] => { results := [.lit (.bool false)], args := [d1, d2] }
  | _ => none }
def SlotTakesWrongFalsely : Prop := slotTakesRow.holds Tryd.pinned (OpenSpec.ofChange slotTakesWrong)

/-- 'fieldfarelaw4.LogOwn': WHATEVER THE INPUT: true; the input reads as it did. -/
def logOwnSpec : ChangeSpec := { name := "logOwn", fn := fun _ => fun
  | [d1, d2] => { results := [.lit (.bool true)], args := [d1, d2] }
  | _ => none }
def logOwnRow : OpenClaim := { program := "ytpnhonhjheahhaadoor", sum := "56b9395db86219c2a9b5c75af22f33e9be101819b4296df1eb9a860efe24bd55", func := "fieldfare/fieldfarelaw4.LogOwn", spec := "logOwn", inPlace := ["internal/reflectlite.ValueOf", "(internal/reflectlite.Value).Type", "(internal/reflectlite.Value).IsNil", "internal/reflectlite.TypeOf", "(internal/reflectlite.Value).Elem", "(internal/reflectlite.Value).Set"], unfollowed := true, recurses := true, named := ["errors.errorType"], apart := false, laid := [("errors.errorType", laid_errors_errorType)] }
def LogOwnSaid : Prop := logOwnRow.holds Tryd.pinned (OpenSpec.ofChange logOwnSpec)

/-- ITS FALSE NEIGHBOUR: 'it returns false'. Refute it at one input. -/
def logOwnWrong : ChangeSpec := { name := "logOwn", fn := fun _ => fun
  | [d1, d2] => { results := [.lit (.bool false)], args := [d1, d2] }
  | _ => none }
def LogOwnWrongFalsely : Prop := logOwnRow.holds Tryd.pinned (OpenSpec.ofChange logOwnWrong)

/-- 'fieldfarelaw4.SnapTwo': WHATEVER THE INPUT: true; the input reads as it did. -/
def snapTwoSpec : ChangeSpec := { name := "snapTwo", fn := fun _ => fun
  | [d1, d2] => { results := [.lit (.bool true)], args := [d1, d2] }
  | _ => none }
def snapTwoRow : OpenClaim := { program := "ytpnhonhjheahhaadoor", sum := "56b9395db86219c2a9b5c75af22f33e9be101819b4296df1eb9a860efe24bd55", func := "fieldfare/fieldfarelaw4.SnapTwo", spec := "snapTwo", inPlace := ["internal/reflectlite.ValueOf", "(internal/reflectlite.Value).Type", "(internal/reflectlite.Value).IsNil", "internal/reflectlite.TypeOf", "(internal/reflectlite.Value).Elem", "(internal/reflectlite.Value).Set"], unfollowed := true, recurses := true, named := ["errors.errorType"], apart := false, laid := [("errors.errorType", laid_errors_errorType)] }
def SnapTwoSaid : Prop := snapTwoRow.holds Tryd.pinned (OpenSpec.ofChange snapTwoSpec)

/-- ITS FALSE NEIGHBOUR: 'it returns false'. Refute it at one input. -/
def snapTwoWrong : ChangeSpec := { name := "snapTwo", fn := fun _ => fun
  | [d1, d2] => { results := [.lit (.bool false)], args := [d1, d2] }
  | _ => none }
def SnapTwoWrongFalsely : Prop := snapTwoRow.holds Tryd.pinned (OpenSpec.ofChange snapTwoWrong)

/-- 'fieldfarelaw4.SnapBad': WHATEVER THE INPUT: true; the input reads as it did. -/
def snapBadSpec : ChangeSpec := { name := "snapBad", fn := fun _ => fun
  | [d1, d2, d3] => { results := [.lit (.bool true)], args := [d1, d2, d3] }
  | _ => none }
def snapBadRow : OpenClaim := { program := "ytpnhonhjheahhaadoor", sum := "56b9395db86219c2a9b5c75af22f33e9be101819b4296df1eb9a860efe24bd55", func := "fieldfare/fieldfarelaw4.SnapBad", spec := "snapBad", inPlace := ["internal/reflectlite.ValueOf", "(internal/reflectlite.Value).Type", "(internal/reflectlite.Value).IsNil", "internal/reflectlite.TypeOf", "(internal/reflectlite.Value).Elem", "(internal/reflectlite.Value).Set"], unfollowed := true, recurses := true, named := ["errors.errorType"], apart := false, laid := [("errors.errorType", laid_errors_errorType)] }
def SnapBadSaid : Prop := snapBadRow.holds Tryd.pinned (OpenSpec.ofChange snapBadSpec)

/-- ITS FALSE NEIGHBOUR: 'it returns false'. Refute it at one input. -/
def snapBadWrong : ChangeSpec := { name := "snapBad", fn := fun _ => fun
  | [d1, d2, d3] => { results := [.lit (.bool false)], args := [d1, d2, d3] }
  | _ => none }
def SnapBadWrongFalsely : Prop := snapBadRow.holds Tryd.pinned (OpenSpec.ofChange snapBadWrong)

/-- 'fieldfarelaw4.SlotAll': WHATEVER THE INPUT: true; the input reads as it did. -/
def slotAllSpec : ChangeSpec := { name := "slotAll", fn := fun _ => fun
  | [d1, d2, d3] => { results := [.lit (.bool true)], args := [d1, d2, d3] }
  | _ => none }
def slotAllRow : OpenClaim := { program := "ytpnhonhjheahhaadoor", sum := "56b9395db86219c2a9b5c75af22f33e9be101819b4296df1eb9a860efe24bd55", func := "fieldfare/fieldfarelaw4.SlotAll", spec := "slotAll", inPlace := ["internal/reflectlite.ValueOf", "(internal/reflectlite.Value).Type", "(internal/reflectlite.Value).IsNil", "internal/reflectlite.TypeOf", "(internal/reflectlite.Value).Elem", "(internal/reflectlite.Value).Set"], unfollowed := true, recurses := true, named := ["errors.errorType"], apart := false, laid := [("errors.errorType", laid_errors_errorType)] }
def SlotAllSaid : Prop := slotAllRow.holds Tryd.pinned (OpenSpec.ofChange slotAllSpec)

/-- ITS FALSE NEIGHBOUR: 'it returns false'. Refute it at one input. -/
def slotAllWrong : ChangeSpec := { name := "slotAll", fn := fun _ => fun
  | [d1, d2, d3] => { results := [.lit (.bool false)], args := [d1, d2, d3] }
  | _ => none }
def SlotAllWrongFalsely : Prop := slotAllRow.holds Tryd.pinned (OpenSpec.ofChange slotAllWrong)

/-- 'fieldfarelaw4.SlotMake': WHATEVER THE INPUT: true; the input reads as it did. -/
def slotMakeSpec : ChangeSpec := { name := "slotMake", fn := fun _ => fun
  | [d1, d2, d3, d4, d5] => { results := [.lit (.bool true)], args := [d1, d2, d3, d4, d5] }
  | _ => none }
def slotMakeRow : OpenClaim := { program := "ytpnhonhjheahhaadoor", sum := "56b9395db86219c2a9b5c75af22f33e9be101819b4296df1eb9a860efe24bd55", func := "fieldfare/fieldfarelaw4.SlotMake", spec := "slotMake", inPlace := ["internal/reflectlite.ValueOf", "(internal/reflectlite.Value).Type", "(internal/reflectlite.Value).IsNil", "internal/reflectlite.TypeOf", "(internal/reflectlite.Value).Elem", "(internal/reflectlite.Value).Set"], unfollowed := true, recurses := true, named := ["errors.errorType"], apart := false, laid := [("errors.errorType", laid_errors_errorType)] }
def SlotMakeSaid : Prop := slotMakeRow.holds Tryd.pinned (OpenSpec.ofChange slotMakeSpec)

/-- ITS FALSE NEIGHBOUR: 'it returns false'. Refute it at one input. -/
def slotMakeWrong : ChangeSpec := { name := "slotMake", fn := fun _ => fun
  | [d1, d2, d3, d4, d5] => { results := [.lit (.bool false)], args := [d1, d2, d3, d4, d5] }
  | _ => none }
def SlotMakeWrongFalsely : Prop := slotMakeRow.holds Tryd.pinned (OpenSpec.ofChange slotMakeWrong)

/-- 'fieldfarelaw4.SlotFirst': WHATEVER THE INPUT: true; the input reads as it did. -/
def slotFirstSpec : ChangeSpec := { name := "slotFirst", fn := fun _ => fun
  | [d1, d2, d3] => { results := [.lit (.bool true)], args := [d1, d2, d3] }
  | _ => none }
def slotFirstRow : OpenClaim := { program := "ytpnhonhjheahhaadoor", sum := "56b9395db86219c2a9b5c75af22f33e9be101819b4296df1eb9a860efe24bd55", func := "fieldfare/fieldfarelaw4.SlotFirst", spec := "slotFirst", inPlace := ["internal/reflectlite.ValueOf", "(internal/reflectlite.Value).Type", "(internal/reflectlite.Value).IsNil", "internal/reflectlite.TypeOf", "(internal/reflectlite.Value).Elem", "(internal/reflectlite.Value).Set"], unfollowed := true, recurses := true, named := ["errors.errorType"], apart := false, laid := [("errors.errorType", laid_errors_errorType)] }
def SlotFirstSaid : Prop := slotFirstRow.holds Tryd.pinned (OpenSpec.ofChange slotFirstSpec)

/-- ITS FALSE NEIGHBOUR: 'it returns false'. Refute it at one input. -/
def slotFirstWrong : ChangeSpec := { name := "slotFirst", fn := fun _ => fun
  | [d1, d2, d3] => { results := [.lit (.bool false)], args := [d1, d2, d3] }
  | _ => none }
def SlotFirstWrongFalsely : Prop := slotFirstRow.holds Tryd.pinned (OpenSpec.ofChange slotFirstWrong)

/-- 'fieldfarelaw4.LogAll': WHATEVER THE INPUT: true; the input reads as it did. -/
def logAllSpec : ChangeSpec := { name := "logAll", fn := fun _ => fun
  | [d1, d2] => { results := [.lit (.bool true)], args := [d1, d2] }
  | _ => none }
def logAllRow : OpenClaim := { program := "ytpnhonhjheahhaadoor", sum := "56b9395db86219c2a9b5c75af22f33e9be101819b4296df1eb9a860efe24bd55", func := "fieldfare/fieldfarelaw4.LogAll", spec := "logAll", inPlace := ["internal/reflectlite.ValueOf", "(internal/reflectlite.Value).Type", "(internal/reflectlite.Value).IsNil", "internal/reflectlite.TypeOf", "(internal/reflectlite.Value).Elem", "(internal/reflectlite.Value).Set"], unfollowed := true, recurses := true, named := ["errors.errorType"], apart := false, laid := [("errors.errorType", laid_errors_errorType)] }
def LogAllSaid : Prop := logAllRow.holds Tryd.pinned (OpenSpec.ofChange logAllSpec)

/-- ITS FALSE NEIGHBOUR: 'it returns false'. Refute it at one input. -/
def logAllWrong : ChangeSpec := { name := "logAll", fn := fun _ => fun
  | [d1, d2] => { results := [.lit (.bool false)], args := [d1, d2] }
  | _ => none }
def LogAllWrongFalsely : Prop := logAllRow.holds Tryd.pinned (OpenSpec.ofChange logAllWrong)

/-- 'fieldfarelaw4.SnapAll': WHATEVER THE INPUT: true; the input reads as it did. -/
def snapAllSpec : ChangeSpec := { name := "snapAll", fn := fun _ => fun
  | [d1, d2, d3] => { results := [.lit (.bool true)], args := [d1, d2, d3] }
  | _ => none }
def snapAllRow : OpenClaim := { program := "ytpnhonhjheahhaadoor", sum := "56b9395db86219c2a9b5c75af22f33e9be101819b4296df1eb9a860efe24bd55", func := "fieldfare/fieldfarelaw4.SnapAll", spec := "snapAll", inPlace := ["internal/reflectlite.ValueOf", "(internal/reflectlite.Value).Type", "(internal/reflectlite.Value).IsNil", "internal/reflectlite.TypeOf", "(internal/reflectlite.Value).Elem", "(internal/reflectlite.Value).Set"], unfollowed := true, recurses := true, named := ["errors.errorType"], apart := false, laid := [("errors.errorType", laid_errors_errorType)] }
def SnapAllSaid : Prop := snapAllRow.holds Tryd.pinned (OpenSpec.ofChange snapAllSpec)

/-- ITS FALSE NEIGHBOUR: 'it returns false'. Refute it at one input. -/
def snapAllWrong : ChangeSpec := { name := "snapAll", fn := fun _ => fun
  | [d1, d2, d3] => { results := [.lit (.bool false)], args := [d1, d2, d3] }
  | _ => none }
def SnapAllWrongFalsely : Prop := snapAllRow.holds Tryd.pinned (OpenSpec.ofChange snapAllWrong)

/-- 'fieldfarelaw4.LogCut': WHATEVER THE INPUT: true; the input reads as it did. -/
def logCutSpec : ChangeSpec := { name := "logCut", fn := fun _ => fun
  | [d1, d2, d3, d4] => { results := [.lit (.bool true)], args := [d1, d2, d3, d4] }
  | _ => none }
def logCutRow : OpenClaim := { program := "ytpnhonhjheahhaadoor", sum := "56b9395db86219c2a9b5c75af22f33e9be101819b4296df1eb9a860efe24bd55", func := "fieldfare/fieldfarelaw4.LogCut", spec := "logCut", inPlace := ["internal/reflectlite.ValueOf", "(internal/reflectlite.Value).Type", "(internal/reflectlite.Value).IsNil", "internal/reflectlite.TypeOf", "(internal/reflectlite.Value).Elem", "(internal/reflectlite.Value).Set"], unfollowed := true, recurses := true, named := ["errors.errorType"], apart := false, laid := [("errors.errorType", laid_errors_errorType)] }
def LogCutSaid : Prop := logCutRow.holds Tryd.pinned (OpenSpec.ofChange logCutSpec)

/-- ITS FALSE NEIGHBOUR: 'it returns false'. Refute it at one input. -/
def logCutWrong : ChangeSpec := { name := "logCut", fn := fun _ => fun
  | [d1, d2, d3, d4] => { results := [.lit (.bool false)], args := [d1, d2, d3, d4] }
  | _ => none }
def LogCutWrongFalsely : Prop := logCutRow.holds Tryd.pinned (OpenSpec.ofChange logCutWrong)

/-- 'fieldfarelaw4.LogReset': WHATEVER THE INPUT: true; the input reads as it did. -/
def logResetSpec : ChangeSpec := { name := "logReset", fn := fun _ => fun
  | [d1, d2, d3, d4, d5] => { results := [.lit (.bool true)], args := [d1, d2, d3, d4, d5] }
  | _ => none }
def logResetRow : OpenClaim := { program := "ytpnhonhjheahhaadoor", sum := "56b9395db86219c2a9b5c75af22f33e9be101819b4296df1eb9a860efe24bd55", func := "fieldfare/fieldfarelaw4.LogReset", spec := "logReset", inPlace := ["internal/reflectlite.ValueOf", "(internal/reflectlite.Value).Type", "(internal/reflectlite.Value).IsNil", "internal/reflectlite.TypeOf", "(internal/reflectlite.Value).Elem", "(internal/reflectlite.Value).Set"], unfollowed := true, recurses := true, named := ["errors.errorType"], apart := false, laid := [("errors.errorType", laid_errors_errorType)] }
def LogResetSaid : Prop := logResetRow.holds Tryd.pinned (OpenSpec.ofChange logResetSpec)

/-- ITS FALSE NEIGHBOUR: 'it returns false'. Refute it at one input. -/
def logResetWrong : ChangeSpec := { name := "logReset", fn := fun _ => fun
  | [d1, d2, d3, d4, d5] => { results := [.lit (.bool false)], args := [d1, d2, d3, d4, d5] }
  | _ => none }
def LogResetWrongFalsely : Prop := logResetRow.holds Tryd.pinned (OpenSpec.ofChange logResetWrong)

/-- 'fieldfarelaw4.LogOn': WHATEVER THE INPUT: true; the input reads as it did. -/
def logOnSpec : ChangeSpec := { name := "logOn", fn := fun _ => fun
  | [d1, d2, d3, d4] => { results := [.lit (.bool true)], args := [d1, d2, d3, d4] }
  | _ => none }
def logOnRow : OpenClaim := { program := "ytpnhonhjheahhaadoor", sum := "56b9395db86219c2a9b5c75af22f33e9be101819b4296df1eb9a860efe24bd55", func := "fieldfare/fieldfarelaw4.LogOn", spec := "logOn", inPlace := ["internal/reflectlite.ValueOf", "(internal/reflectlite.Value).Type", "(internal/reflectlite.Value).IsNil", "internal/reflectlite.TypeOf", "(internal/reflectlite.Value).Elem", "(internal/reflectlite.Value).Set"], unfollowed := true, recurses := true, named := ["errors.errorType"], apart := false, laid := [("errors.errorType", laid_errors_errorType)] }
def LogOnSaid : Prop := logOnRow.holds Tryd.pinned (OpenSpec.ofChange logOnSpec)

/-- ITS FALSE NEIGHBOUR: 'it returns false'. Refute it at one input. -/
def logOnWrong : ChangeSpec := { name := "logOn", fn := fun _ => fun
  | [d1, d2, d3, d4] => { results := [.lit (.bool false)], args := [d1, d2, d3, d4] }
  | _ => none }
def LogOnWrongFalsely : Prop := logOnRow.holds Tryd.pinned (OpenSpec.ofChange logOnWrong)

/-- 'fieldfarelaw4.LogNew': WHATEVER THE INPUT: true; the input reads as it did. -/
def logNewSpec : ChangeSpec := { name := "logNew", fn := fun _ => fun
  | [d1, d2, d3] => { results := [.lit (.bool true)], args := [d1, d2, d3] }
  | _ => none }
def logNewRow : OpenClaim := { program := "ytpnhonhjheahhaadoor", sum := "56b9395db86219c2a9b5c75af22f33e9be101819b4296df1eb9a860efe24bd55", func := "fieldfare/fieldfarelaw4.LogNew", spec := "logNew", inPlace := ["internal/reflectlite.ValueOf", "(internal/reflectlite.Value).Type", "(internal/reflectlite.Value).IsNil", "internal/reflectlite.TypeOf", "(internal/reflectlite.Value).Elem", "(internal/reflectlite.Value).Set"], unfollowed := true, recurses := true, named := ["errors.errorType"], apart := false, laid := [("errors.errorType", laid_errors_errorType)] }
def LogNewSaid : Prop := logNewRow.holds Tryd.pinned (OpenSpec.ofChange logNewSpec)

/-- ITS FALSE NEIGHBOUR: 'it returns false'. Refute it at one input. -/
def logNewWrong : ChangeSpec := { name := "logNew", fn := fun _ => fun
  | [d1, d2, d3] => { results := [.lit (.bool false)], args := [d1, d2, d3] }
  | _ => none }
def LogNewWrongFalsely : Prop := logNewRow.holds Tryd.pinned (OpenSpec.ofChange logNewWrong)

/- THE SECOND FORM. 'bulk': how many values and letters a reading holds, each counted each time it is reached (what is shared counts as often as it is met; a slice's spare places count too). A statement '..UptoSaid' is the law's where the arguments, and the package variables that the reading takes, are together of bulk at most 1048576: NARROWER than '..Said'. Prove '..Said' where nothing that the law and all that it calls make is longer than what came in: it says more and counts as full. Else prove '..UptoSaid'. A law counts once. -/
mutual
def uptoBulk {H : Type} : DataW H → Nat
  | .lit (.string bytes) => bytes.length + 1
  | .lit _ => 1
  | .nil => 1
  | .ptr d => uptoBulk d + 1
  | .slice elems spare => uptoBulkAll elems + uptoBulkAll spare + 1
  | .agg parts => uptoBulkAll parts + 1
  | .iface _ d => uptoBulk d + 1
  | .map entries => uptoBulkEntries entries + 1
  | .held _ => 1
def uptoBulkAll {H : Type} : List (DataW H) → Nat
  | [] => 0
  | d :: r => uptoBulk d + uptoBulkAll r
def uptoBulkEntries {H : Type} : List (Lit × DataW H) → Nat
  | [] => 0
  | x :: r => uptoBulkEntry x + uptoBulkEntries r
def uptoBulkEntry {H : Type} : Lit × DataW H → Nat
  | (.string bytes, d) => bytes.length + uptoBulk d + 1
  | (_, d) => uptoBulk d + 1
 end
def uptoSmall : (H : Type) → List (DataW H) → Bool := fun _ ds => decide (uptoBulkAll ds ≤ 1048576)
def OpenSpec.upto (s : _root_.Go.ChangeSpec) : _root_.Go.OpenSpec := { _root_.Go.OpenSpec.ofChange s with cond := some uptoSmall }

/-- 'fieldfarelaw4.LogFull', WHERE WHAT IT READS IS OF BULK AT MOST 1048576: true; the input reads as it did. -/
def logFullUptoRow : OpenClaim := { program := "ytpnhonhjheahhaadoor", sum := "56b9395db86219c2a9b5c75af22f33e9be101819b4296df1eb9a860efe24bd55", func := "fieldfare/fieldfarelaw4.LogFull", spec := "logFull", inPlace := ["internal/reflectlite.ValueOf", "(internal/reflectlite.Value).Type", "(internal/reflectlite.Value).IsNil", "internal/reflectlite.TypeOf", "(internal/reflectlite.Value).Elem", "(internal/reflectlite.Value).Set"], unfollowed := true, recurses := true, named := ["errors.errorType"], apart := false, laid := [("errors.errorType", laid_errors_errorType)], narrowed := true }
def LogFullUptoSaid : Prop := logFullUptoRow.holds Tryd.pinned (OpenSpec.upto logFullSpec)

/-- 'fieldfarelaw4.LogRounds', WHERE WHAT IT READS IS OF BULK AT MOST 1048576: true; the input reads as it did. -/
def logRoundsUptoRow : OpenClaim := { program := "ytpnhonhjheahhaadoor", sum := "56b9395db86219c2a9b5c75af22f33e9be101819b4296df1eb9a860efe24bd55", func := "fieldfare/fieldfarelaw4.LogRounds", spec := "logRounds", inPlace := ["internal/reflectlite.ValueOf", "(internal/reflectlite.Value).Type", "(internal/reflectlite.Value).IsNil", "internal/reflectlite.TypeOf", "(internal/reflectlite.Value).Elem", "(internal/reflectlite.Value).Set"], unfollowed := true, recurses := true, named := ["errors.errorType"], apart := false, laid := [("errors.errorType", laid_errors_errorType)], narrowed := true }
def LogRoundsUptoSaid : Prop := logRoundsUptoRow.holds Tryd.pinned (OpenSpec.upto logRoundsSpec)

/-- 'fieldfarelaw4.KeptNone', WHERE WHAT IT READS IS OF BULK AT MOST 1048576: true; the input reads as it did. -/
def keptNoneUptoRow : OpenClaim := { program := "ytpnhonhjheahhaadoor", sum := "56b9395db86219c2a9b5c75af22f33e9be101819b4296df1eb9a860efe24bd55", func := "fieldfare/fieldfarelaw4.KeptNone", spec := "keptNone", inPlace := ["internal/reflectlite.ValueOf", "(internal/reflectlite.Value).Type", "(internal/reflectlite.Value).IsNil", "internal/reflectlite.TypeOf", "(internal/reflectlite.Value).Elem", "(internal/reflectlite.Value).Set"], unfollowed := true, recurses := true, named := ["errors.errorType"], apart := false, laid := [("errors.errorType", laid_errors_errorType)], narrowed := true }
def KeptNoneUptoSaid : Prop := keptNoneUptoRow.holds Tryd.pinned (OpenSpec.upto keptNoneSpec)

/-- 'fieldfarelaw4.SlotLong', WHERE WHAT IT READS IS OF BULK AT MOST 1048576: true; the input reads as it did. -/
def slotLongUptoRow : OpenClaim := { program := "ytpnhonhjheahhaadoor", sum := "56b9395db86219c2a9b5c75af22f33e9be101819b4296df1eb9a860efe24bd55", func := "fieldfare/fieldfarelaw4.SlotLong", spec := "slotLong", inPlace := ["internal/reflectlite.ValueOf", "(internal/reflectlite.Value).Type", "(internal/reflectlite.Value).IsNil", "internal/reflectlite.TypeOf", "(internal/reflectlite.Value).Elem", "(internal/reflectlite.Value).Set"], unfollowed := true, recurses := true, named := ["errors.errorType"], apart := false, laid := [("errors.errorType", laid_errors_errorType)], narrowed := true }
def SlotLongUptoSaid : Prop := slotLongUptoRow.holds Tryd.pinned (OpenSpec.upto slotLongSpec)

/-- 'fieldfarelaw4.SlotAfter', WHERE WHAT IT READS IS OF BULK AT MOST 1048576: true; the input reads as it did. -/
def slotAfterUptoRow : OpenClaim := { program := "ytpnhonhjheahhaadoor", sum := "56b9395db86219c2a9b5c75af22f33e9be101819b4296df1eb9a860efe24bd55", func := "fieldfare/fieldfarelaw4.SlotAfter", spec := "slotAfter", inPlace := ["internal/reflectlite.ValueOf", "(internal/reflectlite.Value).Type", "(internal/reflectlite.Value).IsNil", "internal/reflectlite.TypeOf", "(internal/reflectlite.Value).Elem", "(internal/reflectlite.Value).Set"], unfollowed := true, recurses := true, named := ["errors.errorType"], apart := false, laid := [("errors.errorType", laid_errors_errorType)], narrowed := true }
def SlotAfterUptoSaid : Prop := slotAfterUptoRow.holds Tryd.pinned (OpenSpec.upto slotAfterSpec)

/-- 'fieldfarelaw4.SlotTakes', WHERE WHAT IT READS IS OF BULK AT MOST 1048576: true; the input reads as it did. -/
def slotTakesUptoRow : OpenClaim := { program := "ytpnhonhjheahhaadoor", sum := "56b9395db86219c2a9b5c75af22f33e9be101819b4296df1eb9a860efe24bd55", func := "fieldfare/fieldfarelaw4.SlotTakes", spec := "slotTakes", inPlace := ["internal/reflectlite.ValueOf", "(internal/reflectlite.Value).Type", "(internal/reflectlite.Value).IsNil", "internal/reflectlite.TypeOf", "(internal/reflectlite.Value).Elem", "(internal/reflectlite.Value).Set"], unfollowed := true, recurses := true, named := ["errors.errorType"], apart := false, laid := [("errors.errorType", laid_errors_errorType)], narrowed := true }
def SlotTakesUptoSaid : Prop := slotTakesUptoRow.holds Tryd.pinned (OpenSpec.upto slotTakesSpec)

/-- 'fieldfarelaw4.LogOwn', WHERE WHAT IT READS IS OF BULK AT MOST 1048576: true; the input reads as it did. -/
def logOwnUptoRow : OpenClaim := { program := "ytpnhonhjheahhaadoor", sum := "56b9395db86219c2a9b5c75af22f33e9be101819b4296df1eb9a860efe24bd55", func := "fieldfare/fieldfarelaw4.LogOwn", spec := "logOwn", inPlace := ["internal/reflectlite.ValueOf", "(internal/reflectlite.Value).Type", "(internal/reflectlite.Value).IsNil", "internal/reflectlite.TypeOf", "(internal/reflectlite.Value).Elem", "(internal/reflectlite.Value).Set"], unfollowed := true, recurses := true, named := ["errors.errorType"], apart := false, laid := [("errors.errorType", laid_errors_errorType)], narrowed := true }
def LogOwnUptoSaid : Prop := logOwnUptoRow.holds Tryd.pinned (OpenSpec.upto logOwnSpec)

/-- 'fieldfarelaw4.SnapTwo', WHERE WHAT IT READS IS OF BULK AT MOST 1048576: true; the input reads as it did. -/
def snapTwoUptoRow : OpenClaim := { program := "ytpnhonhjheahhaadoor", sum := "56b9395db86219c2a9b5c75af22f33e9be101819b4296df1eb9a860efe24bd55", func := "fieldfare/fieldfarelaw4.SnapTwo", spec := "snapTwo", inPlace := ["internal/reflectlite.ValueOf", "(internal/reflectlite.Value).Type", "(internal/reflectlite.Value).IsNil", "internal/reflectlite.TypeOf", "(internal/reflectlite.Value).Elem", "(internal/reflectlite.Value).Set"], unfollowed := true, recurses := true, named := ["errors.errorType"], apart := false, laid := [("errors.errorType", laid_errors_errorType)], narrowed := true }
def SnapTwoUptoSaid : Prop := snapTwoUptoRow.holds Tryd.pinned (OpenSpec.upto snapTwoSpec)

/-- 'fieldfarelaw4.SnapBad', WHERE WHAT IT READS IS OF BULK AT MOST 1048576: true; the input reads as it did. -/
def snapBadUptoRow : OpenClaim := { program := "ytpnhonhjheahhaadoor", sum := "56b9395db86219c2a9b5c75af22f33e9be101819b4296df1eb9a860efe24bd55", func := "fieldfare/fieldfarelaw4.SnapBad", spec := "snapBad", inPlace := ["internal/reflectlite.ValueOf", "(internal/reflectlite.Value).Type", "(internal/reflectlite.Value).IsNil", "internal/reflectlite.TypeOf", "(internal/reflectlite.Value).Elem", "(internal/reflectlite.Value).Set"], unfollowed := true, recurses := true, named := ["errors.errorType"], apart := false, laid := [("errors.errorType", laid_errors_errorType)], narrowed := true }
def SnapBadUptoSaid : Prop := snapBadUptoRow.holds Tryd.pinned (OpenSpec.upto snapBadSpec)

/-- 'fieldfarelaw4.SlotAll', WHERE WHAT IT READS IS OF BULK AT MOST 1048576: true; the input reads as it did. -/
def slotAllUptoRow : OpenClaim := { program := "ytpnhonhjheahhaadoor", sum := "56b9395db86219c2a9b5c75af22f33e9be101819b4296df1eb9a860efe24bd55", func := "fieldfare/fieldfarelaw4.SlotAll", spec := "slotAll", inPlace := ["internal/reflectlite.ValueOf", "(internal/reflectlite.Value).Type", "(internal/reflectlite.Value).IsNil", "internal/reflectlite.TypeOf", "(internal/reflectlite.Value).Elem", "(internal/reflectlite.Value).Set"], unfollowed := true, recurses := true, named := ["errors.errorType"], apart := false, laid := [("errors.errorType", laid_errors_errorType)], narrowed := true }
def SlotAllUptoSaid : Prop := slotAllUptoRow.holds Tryd.pinned (OpenSpec.upto slotAllSpec)

/-- 'fieldfarelaw4.SlotMake', WHERE WHAT IT READS IS OF BULK AT MOST 1048576: true; the input reads as it did. -/
def slotMakeUptoRow : OpenClaim := { program := "ytpnhonhjheahhaadoor", sum := "56b9395db86219c2a9b5c75af22f33e9be101819b4296df1eb9a860efe24bd55", func := "fieldfare/fieldfarelaw4.SlotMake", spec := "slotMake", inPlace := ["internal/reflectlite.ValueOf", "(internal/reflectlite.Value).Type", "(internal/reflectlite.Value).IsNil", "internal/reflectlite.TypeOf", "(internal/reflectlite.Value).Elem", "(internal/reflectlite.Value).Set"], unfollowed := true, recurses := true, named := ["errors.errorType"], apart := false, laid := [("errors.errorType", laid_errors_errorType)], narrowed := true }
def SlotMakeUptoSaid : Prop := slotMakeUptoRow.holds Tryd.pinned (OpenSpec.upto slotMakeSpec)

/-- 'fieldfarelaw4.SlotFirst', WHERE WHAT IT READS IS OF BULK AT MOST 1048576: true; the input reads as it did. -/
def slotFirstUptoRow : OpenClaim := { program := "ytpnhonhjheahhaadoor", sum := "56b9395db86219c2a9b5c75af22f33e9be101819b4296df1eb9a860efe24bd55", func := "fieldfare/fieldfarelaw4.SlotFirst", spec := "slotFirst", inPlace := ["internal/reflectlite.ValueOf", "(internal/reflectlite.Value).Type", "(internal/reflectlite.Value).IsNil", "internal/reflectlite.TypeOf", "(internal/reflectlite.Value).Elem", "(internal/reflectlite.Value).Set"], unfollowed := true, recurses := true, named := ["errors.errorType"], apart := false, laid := [("errors.errorType", laid_errors_errorType)], narrowed := true }
def SlotFirstUptoSaid : Prop := slotFirstUptoRow.holds Tryd.pinned (OpenSpec.upto slotFirstSpec)

/-- 'fieldfarelaw4.LogAll', WHERE WHAT IT READS IS OF BULK AT MOST 1048576: true; the input reads as it did. -/
def logAllUptoRow : OpenClaim := { program := "ytpnhonhjheahhaadoor", sum := "56b9395db86219c2a9b5c75af22f33e9be101819b4296df1eb9a860efe24bd55", func := "fieldfare/fieldfarelaw4.LogAll", spec := "logAll", inPlace := ["internal/reflectlite.ValueOf", "(internal/reflectlite.Value).Type", "(internal/reflectlite.Value).IsNil", "internal/reflectlite.TypeOf", "(internal/reflectlite.Value).Elem", "(internal/reflectlite.Value).Set"], unfollowed := true, recurses := true, named := ["errors.errorType"], apart := false, laid := [("errors.errorType", laid_errors_errorType)], narrowed := true }
def LogAllUptoSaid : Prop := logAllUptoRow.holds Tryd.pinned (OpenSpec.upto logAllSpec)

/-- 'fieldfarelaw4.SnapAll', WHERE WHAT IT READS IS OF BULK AT MOST 1048576: true; the input reads as it did. -/
def snapAllUptoRow : OpenClaim := { program := "ytpnhonhjheahhaadoor", sum := "56b9395db86219c2a9b5c75af22f33e9be101819b4296df1eb9a860efe24bd55", func := "fieldfare/fieldfarelaw4.SnapAll", spec := "snapAll", inPlace := ["internal/reflectlite.ValueOf", "(internal/reflectlite.Value).Type", "(internal/reflectlite.Value).IsNil", "internal/reflectlite.TypeOf", "(internal/reflectlite.Value).Elem", "(internal/reflectlite.Value).Set"], unfollowed := true, recurses := true, named := ["errors.errorType"], apart := false, laid := [("errors.errorType", laid_errors_errorType)], narrowed := true }
def SnapAllUptoSaid : Prop := snapAllUptoRow.holds Tryd.pinned (OpenSpec.upto snapAllSpec)

/-- 'fieldfarelaw4.LogCut', WHERE WHAT IT READS IS OF BULK AT MOST 1048576: true; the input reads as it did. -/
def logCutUptoRow : OpenClaim := { program := "ytpnhonhjheahhaadoor", sum := "56b9395db86219c2a9b5c75af22f33e9be101819b4296df1eb9a860efe24bd55", func := "fieldfare/fieldfarelaw4.LogCut", spec := "logCut", inPlace := ["internal/reflectlite.ValueOf", "(internal/reflectlite.Value).Type", "(internal/reflectlite.Value).IsNil", "internal/reflectlite.TypeOf", "(internal/reflectlite.Value).Elem", "(internal/reflectlite.Value).Set"], unfollowed := true, recurses := true, named := ["errors.errorType"], apart := false, laid := [("errors.errorType", laid_errors_errorType)], narrowed := true }
def LogCutUptoSaid : Prop := logCutUptoRow.holds Tryd.pinned (OpenSpec.upto logCutSpec)

/-- 'fieldfarelaw4.LogReset', WHERE WHAT IT READS IS OF BULK AT MOST 1048576: true; the input reads as it did. -/
def logResetUptoRow : OpenClaim := { program := "ytpnhonhjheahhaadoor", sum := "56b9395db86219c2a9b5c75af22f33e9be101819b4296df1eb9a860efe24bd55", func := "fieldfare/fieldfarelaw4.LogReset", spec := "logReset", inPlace := ["internal/reflectlite.ValueOf", "(internal/reflectlite.Value).Type", "(internal/reflectlite.Value).IsNil", "internal/reflectlite.TypeOf", "(internal/reflectlite.Value).Elem", "(internal/reflectlite.Value).Set"], unfollowed := true, recurses := true, named := ["errors.errorType"], apart := false, laid := [("errors.errorType", laid_errors_errorType)], narrowed := true }
def LogResetUptoSaid : Prop := logResetUptoRow.holds Tryd.pinned (OpenSpec.upto logResetSpec)

/-- 'fieldfarelaw4.LogOn', WHERE WHAT IT READS IS OF BULK AT MOST 1048576: true; the input reads as it did. -/
def logOnUptoRow : OpenClaim := { program := "ytpnhonhjheahhaadoor", sum := "56b9395db86219c2a9b5c75af22f33e9be101819b4296df1eb9a860efe24bd55", func := "fieldfare/fieldfarelaw4.LogOn", spec := "logOn", inPlace := ["internal/reflectlite.ValueOf", "(internal/reflectlite.Value).Type", "(internal/reflectlite.Value).IsNil", "internal/reflectlite.TypeOf", "(internal/reflectlite.Value).Elem", "(internal/reflectlite.Value).Set"], unfollowed := true, recurses := true, named := ["errors.errorType"], apart := false, laid := [("errors.errorType", laid_errors_errorType)], narrowed := true }
def LogOnUptoSaid : Prop := logOnUptoRow.holds Tryd.pinned (OpenSpec.upto logOnSpec)

/-- 'fieldfarelaw4.LogNew', WHERE WHAT IT READS IS OF BULK AT MOST 1048576: true; the input reads as it did. -/
def logNewUptoRow : OpenClaim := { program := "ytpnhonhjheahhaadoor", sum := "56b9395db86219c2a9b5c75af22f33e9be101819b4296df1eb9a860efe24bd55", func := "fieldfare/fieldfarelaw4.LogNew", spec := "logNew", inPlace := ["internal/reflectlite.ValueOf", "(internal/reflectlite.Value).Type", "(internal/reflectlite.Value).IsNil", "internal/reflectlite.TypeOf", "(internal/reflectlite.Value).Elem", "(internal/reflectlite.Value).Set"], unfollowed := true, recurses := true, named := ["errors.errorType"], apart := false, laid := [("errors.errorType", laid_errors_errorType)], narrowed := true }
def LogNewUptoSaid : Prop := logNewUptoRow.holds Tryd.pinned (OpenSpec.upto logNewSpec)

end Rows
end Go.Proofs.YtpnhonhjheahhaaDoor
