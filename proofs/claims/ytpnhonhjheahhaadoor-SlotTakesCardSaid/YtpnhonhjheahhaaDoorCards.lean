/-
  DERIVED. GIVEN WITH THE SEED: THE CARDS: each row of YtpnhonhjheahhaaDoorRows.lean that lists a variable, with what it lists TIED to the program's text (the seventh form; the later family's looks); each row that meets fmt, with fmt's text TOLD by the authors' own Lean function (tested against real Go, not proved from fmt's source: count such statements apart). THE CARD IS WHAT COUNTS. Prove the row's statement (the work); the ties are given (YtpnhonhjheahhaaDoorTie.lean); close each card by the builder's one call (the guide's Derived/Test/ToyasCard.lean, 'card_holds'). Laid BY PROGRAM, IN A SANDBOX (cutbox-door.mjs). By AI agents, Wed Nov 11 2026. No macro, syntax, notation, axiom, sorry.
-/
import Derived.Test.YtpnhonhjheahhaaDoorRows
import GoSem.ClaimSeven
namespace Go.Proofs.YtpnhonhjheahhaaDoor
namespace Rows

/-- THE TIED CARD OF 'fieldfarelaw4.LogFull'. -/
def logFullCard : Claim7 := { stood := { row := logFullRow, standIns := [], harness := (true, "96bf07c8dc316df8040450c682116fc92989d80005d862ad7dce010db00b13c1"), looks := true }, kinds := [], alts := [], laidByText := true, laidKinds := [.handle], laidTests := true, laidLooks := .later }
def LogFullCardSaid : Prop := Claim7.holds Tryd.pinned (.plain (OpenSpec.ofChange logFullSpec)) logFullCard

/-- THE TIED CARD OF 'fieldfarelaw4.LogRounds'. -/
def logRoundsCard : Claim7 := { stood := { row := logRoundsRow, standIns := [], harness := (true, "96bf07c8dc316df8040450c682116fc92989d80005d862ad7dce010db00b13c1"), looks := true }, kinds := [], alts := [], laidByText := true, laidKinds := [.handle], laidTests := true, laidLooks := .later }
def LogRoundsCardSaid : Prop := Claim7.holds Tryd.pinned (.plain (OpenSpec.ofChange logRoundsSpec)) logRoundsCard

/-- THE TIED CARD OF 'fieldfarelaw4.KeptNone'. -/
def keptNoneCard : Claim7 := { stood := { row := keptNoneRow, standIns := [], harness := (true, "96bf07c8dc316df8040450c682116fc92989d80005d862ad7dce010db00b13c1"), looks := true }, kinds := [], alts := [], laidByText := true, laidKinds := [.handle], laidTests := true, laidLooks := .later }
def KeptNoneCardSaid : Prop := Claim7.holds Tryd.pinned (.plain (OpenSpec.ofChange keptNoneSpec)) keptNoneCard

/-- THE TIED CARD OF 'fieldfarelaw4.SlotLong'. -/
def slotLongCard : Claim7 := { stood := { row := slotLongRow, standIns := [], harness := (true, "96bf07c8dc316df8040450c682116fc92989d80005d862ad7dce010db00b13c1"), looks := true }, kinds := [], alts := [], laidByText := true, laidKinds := [.handle], laidTests := true, laidLooks := .later }
def SlotLongCardSaid : Prop := Claim7.holds Tryd.pinned (.plain (OpenSpec.ofChange slotLongSpec)) slotLongCard

/-- THE TIED CARD OF 'fieldfarelaw4.SlotAfter'. -/
def slotAfterCard : Claim7 := { stood := { row := slotAfterRow, standIns := [], harness := (true, "96bf07c8dc316df8040450c682116fc92989d80005d862ad7dce010db00b13c1"), looks := true }, kinds := [], alts := [], laidByText := true, laidKinds := [.handle], laidTests := true, laidLooks := .later }
def SlotAfterCardSaid : Prop := Claim7.holds Tryd.pinned (.plain (OpenSpec.ofChange slotAfterSpec)) slotAfterCard

/-- THE TIED CARD OF 'fieldfarelaw4.SlotTakes'. -/
def slotTakesCard : Claim7 := { stood := { row := slotTakesRow, standIns := [], harness := (true, "96bf07c8dc316df8040450c682116fc92989d80005d862ad7dce010db00b13c1"), looks := true }, kinds := [], alts := [], laidByText := true, laidKinds := [.handle], laidTests := true, laidLooks := .later }
def SlotTakesCardSaid : Prop := Claim7.holds Tryd.pinned (.plain (OpenSpec.ofChange slotTakesSpec)) slotTakesCard

/-- THE TIED CARD OF 'fieldfarelaw4.LogOwn'. -/
def logOwnCard : Claim7 := { stood := { row := logOwnRow, standIns := [], harness := (true, "96bf07c8dc316df8040450c682116fc92989d80005d862ad7dce010db00b13c1"), looks := true }, kinds := [], alts := [], laidByText := true, laidKinds := [.handle], laidTests := true, laidLooks := .later }
def LogOwnCardSaid : Prop := Claim7.holds Tryd.pinned (.plain (OpenSpec.ofChange logOwnSpec)) logOwnCard

/-- THE TIED CARD OF 'fieldfarelaw4.SnapTwo'. -/
def snapTwoCard : Claim7 := { stood := { row := snapTwoRow, standIns := [], harness := (true, "96bf07c8dc316df8040450c682116fc92989d80005d862ad7dce010db00b13c1"), looks := true }, kinds := [], alts := [], laidByText := true, laidKinds := [.handle], laidTests := true, laidLooks := .later }
def SnapTwoCardSaid : Prop := Claim7.holds Tryd.pinned (.plain (OpenSpec.ofChange snapTwoSpec)) snapTwoCard

/-- THE TIED CARD OF 'fieldfarelaw4.SnapBad'. -/
def snapBadCard : Claim7 := { stood := { row := snapBadRow, standIns := [], harness := (true, "96bf07c8dc316df8040450c682116fc92989d80005d862ad7dce010db00b13c1"), looks := true }, kinds := [], alts := [], laidByText := true, laidKinds := [.handle], laidTests := true, laidLooks := .later }
def SnapBadCardSaid : Prop := Claim7.holds Tryd.pinned (.plain (OpenSpec.ofChange snapBadSpec)) snapBadCard

/-- THE TIED CARD OF 'fieldfarelaw4.SlotAll'. -/
def slotAllCard : Claim7 := { stood := { row := slotAllRow, standIns := [], harness := (true, "96bf07c8dc316df8040450c682116fc92989d80005d862ad7dce010db00b13c1"), looks := true }, kinds := [], alts := [], laidByText := true, laidKinds := [.handle], laidTests := true, laidLooks := .later }
def SlotAllCardSaid : Prop := Claim7.holds Tryd.pinned (.plain (OpenSpec.ofChange slotAllSpec)) slotAllCard

/-- THE TIED CARD OF 'fieldfarelaw4.SlotMake'. -/
def slotMakeCard : Claim7 := { stood := { row := slotMakeRow, standIns := [], harness := (true, "96bf07c8dc316df8040450c682116fc92989d80005d862ad7dce010db00b13c1"), looks := true }, kinds := [], alts := [], laidByText := true, laidKinds := [.handle], laidTests := true, laidLooks := .later }
def SlotMakeCardSaid : Prop := Claim7.holds Tryd.pinned (.plain (OpenSpec.ofChange slotMakeSpec)) slotMakeCard

/-- THE TIED CARD OF 'fieldfarelaw4.SlotFirst'. -/
def slotFirstCard : Claim7 := { stood := { row := slotFirstRow, standIns := [], harness := (true, "96bf07c8dc316df8040450c682116fc92989d80005d862ad7dce010db00b13c1"), looks := true }, kinds := [], alts := [], laidByText := true, laidKinds := [.handle], laidTests := true, laidLooks := .later }
def SlotFirstCardSaid : Prop := Claim7.holds Tryd.pinned (.plain (OpenSpec.ofChange slotFirstSpec)) slotFirstCard

/-- THE TIED CARD OF 'fieldfarelaw4.LogAll'. -/
def logAllCard : Claim7 := { stood := { row := logAllRow, standIns := [], harness := (true, "96bf07c8dc316df8040450c682116fc92989d80005d862ad7dce010db00b13c1"), looks := true }, kinds := [], alts := [], laidByText := true, laidKinds := [.handle], laidTests := true, laidLooks := .later }
def LogAllCardSaid : Prop := Claim7.holds Tryd.pinned (.plain (OpenSpec.ofChange logAllSpec)) logAllCard

/-- THE TIED CARD OF 'fieldfarelaw4.SnapAll'. -/
def snapAllCard : Claim7 := { stood := { row := snapAllRow, standIns := [], harness := (true, "96bf07c8dc316df8040450c682116fc92989d80005d862ad7dce010db00b13c1"), looks := true }, kinds := [], alts := [], laidByText := true, laidKinds := [.handle], laidTests := true, laidLooks := .later }
def SnapAllCardSaid : Prop := Claim7.holds Tryd.pinned (.plain (OpenSpec.ofChange snapAllSpec)) snapAllCard

/-- THE TIED CARD OF 'fieldfarelaw4.LogCut'. -/
def logCutCard : Claim7 := { stood := { row := logCutRow, standIns := [], harness := (true, "96bf07c8dc316df8040450c682116fc92989d80005d862ad7dce010db00b13c1"), looks := true }, kinds := [], alts := [], laidByText := true, laidKinds := [.handle], laidTests := true, laidLooks := .later }
def LogCutCardSaid : Prop := Claim7.holds Tryd.pinned (.plain (OpenSpec.ofChange logCutSpec)) logCutCard

/-- THE TIED CARD OF 'fieldfarelaw4.LogReset'. -/
def logResetCard : Claim7 := { stood := { row := logResetRow, standIns := [], harness := (true, "96bf07c8dc316df8040450c682116fc92989d80005d862ad7dce010db00b13c1"), looks := true }, kinds := [], alts := [], laidByText := true, laidKinds := [.handle], laidTests := true, laidLooks := .later }
def LogResetCardSaid : Prop := Claim7.holds Tryd.pinned (.plain (OpenSpec.ofChange logResetSpec)) logResetCard

/-- THE TIED CARD OF 'fieldfarelaw4.LogOn'. -/
def logOnCard : Claim7 := { stood := { row := logOnRow, standIns := [], harness := (true, "96bf07c8dc316df8040450c682116fc92989d80005d862ad7dce010db00b13c1"), looks := true }, kinds := [], alts := [], laidByText := true, laidKinds := [.handle], laidTests := true, laidLooks := .later }
def LogOnCardSaid : Prop := Claim7.holds Tryd.pinned (.plain (OpenSpec.ofChange logOnSpec)) logOnCard

/-- THE TIED CARD OF 'fieldfarelaw4.LogNew'. -/
def logNewCard : Claim7 := { stood := { row := logNewRow, standIns := [], harness := (true, "96bf07c8dc316df8040450c682116fc92989d80005d862ad7dce010db00b13c1"), looks := true }, kinds := [], alts := [], laidByText := true, laidKinds := [.handle], laidTests := true, laidLooks := .later }
def LogNewCardSaid : Prop := Claim7.holds Tryd.pinned (.plain (OpenSpec.ofChange logNewSpec)) logNewCard

/-- THE SECOND FORM's CARD OF 'fieldfarelaw4.LogFull'. -/
def logFullUptoCard : Claim7 := { stood := { row := logFullUptoRow, standIns := [], harness := (true, "96bf07c8dc316df8040450c682116fc92989d80005d862ad7dce010db00b13c1"), looks := true }, kinds := [], alts := [], laidByText := true, laidKinds := [.handle], laidTests := true, laidLooks := .later }
def LogFullUptoCardSaid : Prop := Claim7.holds Tryd.pinned (.plain (OpenSpec.upto logFullSpec)) logFullUptoCard

/-- THE SECOND FORM's CARD OF 'fieldfarelaw4.LogRounds'. -/
def logRoundsUptoCard : Claim7 := { stood := { row := logRoundsUptoRow, standIns := [], harness := (true, "96bf07c8dc316df8040450c682116fc92989d80005d862ad7dce010db00b13c1"), looks := true }, kinds := [], alts := [], laidByText := true, laidKinds := [.handle], laidTests := true, laidLooks := .later }
def LogRoundsUptoCardSaid : Prop := Claim7.holds Tryd.pinned (.plain (OpenSpec.upto logRoundsSpec)) logRoundsUptoCard

/-- THE SECOND FORM's CARD OF 'fieldfarelaw4.KeptNone'. -/
def keptNoneUptoCard : Claim7 := { stood := { row := keptNoneUptoRow, standIns := [], harness := (true, "96bf07c8dc316df8040450c682116fc92989d80005d862ad7dce010db00b13c1"), looks := true }, kinds := [], alts := [], laidByText := true, laidKinds := [.handle], laidTests := true, laidLooks := .later }
def KeptNoneUptoCardSaid : Prop := Claim7.holds Tryd.pinned (.plain (OpenSpec.upto keptNoneSpec)) keptNoneUptoCard

/-- THE SECOND FORM's CARD OF 'fieldfarelaw4.SlotLong'. -/
def slotLongUptoCard : Claim7 := { stood := { row := slotLongUptoRow, standIns := [], harness := (true, "96bf07c8dc316df8040450c682116fc92989d80005d862ad7dce010db00b13c1"), looks := true }, kinds := [], alts := [], laidByText := true, laidKinds := [.handle], laidTests := true, laidLooks := .later }
def SlotLongUptoCardSaid : Prop := Claim7.holds Tryd.pinned (.plain (OpenSpec.upto slotLongSpec)) slotLongUptoCard

/-- THE SECOND FORM's CARD OF 'fieldfarelaw4.SlotAfter'. -/
def slotAfterUptoCard : Claim7 := { stood := { row := slotAfterUptoRow, standIns := [], harness := (true, "96bf07c8dc316df8040450c682116fc92989d80005d862ad7dce010db00b13c1"), looks := true }, kinds := [], alts := [], laidByText := true, laidKinds := [.handle], laidTests := true, laidLooks := .later }
def SlotAfterUptoCardSaid : Prop := Claim7.holds Tryd.pinned (.plain (OpenSpec.upto slotAfterSpec)) slotAfterUptoCard

/-- THE SECOND FORM's CARD OF 'fieldfarelaw4.SlotTakes'. -/
def slotTakesUptoCard : Claim7 := { stood := { row := slotTakesUptoRow, standIns := [], harness := (true, "96bf07c8dc316df8040450c682116fc92989d80005d862ad7dce010db00b13c1"), looks := true }, kinds := [], alts := [], laidByText := true, laidKinds := [.handle], laidTests := true, laidLooks := .later }
def SlotTakesUptoCardSaid : Prop := Claim7.holds Tryd.pinned (.plain (OpenSpec.upto slotTakesSpec)) slotTakesUptoCard

/-- THE SECOND FORM's CARD OF 'fieldfarelaw4.LogOwn'. -/
def logOwnUptoCard : Claim7 := { stood := { row := logOwnUptoRow, standIns := [], harness := (true, "96bf07c8dc316df8040450c682116fc92989d80005d862ad7dce010db00b13c1"), looks := true }, kinds := [], alts := [], laidByText := true, laidKinds := [.handle], laidTests := true, laidLooks := .later }
def LogOwnUptoCardSaid : Prop := Claim7.holds Tryd.pinned (.plain (OpenSpec.upto logOwnSpec)) logOwnUptoCard

/-- THE SECOND FORM's CARD OF 'fieldfarelaw4.SnapTwo'. -/
def snapTwoUptoCard : Claim7 := { stood := { row := snapTwoUptoRow, standIns := [], harness := (true, "96bf07c8dc316df8040450c682116fc92989d80005d862ad7dce010db00b13c1"), looks := true }, kinds := [], alts := [], laidByText := true, laidKinds := [.handle], laidTests := true, laidLooks := .later }
def SnapTwoUptoCardSaid : Prop := Claim7.holds Tryd.pinned (.plain (OpenSpec.upto snapTwoSpec)) snapTwoUptoCard

/-- THE SECOND FORM's CARD OF 'fieldfarelaw4.SnapBad'. -/
def snapBadUptoCard : Claim7 := { stood := { row := snapBadUptoRow, standIns := [], harness := (true, "96bf07c8dc316df8040450c682116fc92989d80005d862ad7dce010db00b13c1"), looks := true }, kinds := [], alts := [], laidByText := true, laidKinds := [.handle], laidTests := true, laidLooks := .later }
def SnapBadUptoCardSaid : Prop := Claim7.holds Tryd.pinned (.plain (OpenSpec.upto snapBadSpec)) snapBadUptoCard

/-- THE SECOND FORM's CARD OF 'fieldfarelaw4.SlotAll'. -/
def slotAllUptoCard : Claim7 := { stood := { row := slotAllUptoRow, standIns := [], harness := (true, "96bf07c8dc316df8040450c682116fc92989d80005d862ad7dce010db00b13c1"), looks := true }, kinds := [], alts := [], laidByText := true, laidKinds := [.handle], laidTests := true, laidLooks := .later }
def SlotAllUptoCardSaid : Prop := Claim7.holds Tryd.pinned (.plain (OpenSpec.upto slotAllSpec)) slotAllUptoCard

/-- THE SECOND FORM's CARD OF 'fieldfarelaw4.SlotMake'. -/
def slotMakeUptoCard : Claim7 := { stood := { row := slotMakeUptoRow, standIns := [], harness := (true, "96bf07c8dc316df8040450c682116fc92989d80005d862ad7dce010db00b13c1"), looks := true }, kinds := [], alts := [], laidByText := true, laidKinds := [.handle], laidTests := true, laidLooks := .later }
def SlotMakeUptoCardSaid : Prop := Claim7.holds Tryd.pinned (.plain (OpenSpec.upto slotMakeSpec)) slotMakeUptoCard

/-- THE SECOND FORM's CARD OF 'fieldfarelaw4.SlotFirst'. -/
def slotFirstUptoCard : Claim7 := { stood := { row := slotFirstUptoRow, standIns := [], harness := (true, "96bf07c8dc316df8040450c682116fc92989d80005d862ad7dce010db00b13c1"), looks := true }, kinds := [], alts := [], laidByText := true, laidKinds := [.handle], laidTests := true, laidLooks := .later }
def SlotFirstUptoCardSaid : Prop := Claim7.holds Tryd.pinned (.plain (OpenSpec.upto slotFirstSpec)) slotFirstUptoCard

/-- THE SECOND FORM's CARD OF 'fieldfarelaw4.LogAll'. -/
def logAllUptoCard : Claim7 := { stood := { row := logAllUptoRow, standIns := [], harness := (true, "96bf07c8dc316df8040450c682116fc92989d80005d862ad7dce010db00b13c1"), looks := true }, kinds := [], alts := [], laidByText := true, laidKinds := [.handle], laidTests := true, laidLooks := .later }
def LogAllUptoCardSaid : Prop := Claim7.holds Tryd.pinned (.plain (OpenSpec.upto logAllSpec)) logAllUptoCard

/-- THE SECOND FORM's CARD OF 'fieldfarelaw4.SnapAll'. -/
def snapAllUptoCard : Claim7 := { stood := { row := snapAllUptoRow, standIns := [], harness := (true, "96bf07c8dc316df8040450c682116fc92989d80005d862ad7dce010db00b13c1"), looks := true }, kinds := [], alts := [], laidByText := true, laidKinds := [.handle], laidTests := true, laidLooks := .later }
def SnapAllUptoCardSaid : Prop := Claim7.holds Tryd.pinned (.plain (OpenSpec.upto snapAllSpec)) snapAllUptoCard

/-- THE SECOND FORM's CARD OF 'fieldfarelaw4.LogCut'. -/
def logCutUptoCard : Claim7 := { stood := { row := logCutUptoRow, standIns := [], harness := (true, "96bf07c8dc316df8040450c682116fc92989d80005d862ad7dce010db00b13c1"), looks := true }, kinds := [], alts := [], laidByText := true, laidKinds := [.handle], laidTests := true, laidLooks := .later }
def LogCutUptoCardSaid : Prop := Claim7.holds Tryd.pinned (.plain (OpenSpec.upto logCutSpec)) logCutUptoCard

/-- THE SECOND FORM's CARD OF 'fieldfarelaw4.LogReset'. -/
def logResetUptoCard : Claim7 := { stood := { row := logResetUptoRow, standIns := [], harness := (true, "96bf07c8dc316df8040450c682116fc92989d80005d862ad7dce010db00b13c1"), looks := true }, kinds := [], alts := [], laidByText := true, laidKinds := [.handle], laidTests := true, laidLooks := .later }
def LogResetUptoCardSaid : Prop := Claim7.holds Tryd.pinned (.plain (OpenSpec.upto logResetSpec)) logResetUptoCard

/-- THE SECOND FORM's CARD OF 'fieldfarelaw4.LogOn'. -/
def logOnUptoCard : Claim7 := { stood := { row := logOnUptoRow, standIns := [], harness := (true, "96bf07c8dc316df8040450c682116fc92989d80005d862ad7dce010db00b13c1"), looks := true }, kinds := [], alts := [], laidByText := true, laidKinds := [.handle], laidTests := true, laidLooks := .later }
def LogOnUptoCardSaid : Prop := Claim7.holds Tryd.pinned (.plain (OpenSpec.upto logOnSpec)) logOnUptoCard

/-- THE SECOND FORM's CARD OF 'fieldfarelaw4.LogNew'. -/
def logNewUptoCard : Claim7 := { stood := { row := logNewUptoRow, standIns := [], harness := (true, "96bf07c8dc316df8040450c682116fc92989d80005d862ad7dce010db00b13c1"), looks := true }, kinds := [], alts := [], laidByText := true, laidKinds := [.handle], laidTests := true, laidLooks := .later }
def LogNewUptoCardSaid : Prop := Claim7.holds Tryd.pinned (.plain (OpenSpec.upto logNewSpec)) logNewUptoCard
end Rows
end Go.Proofs.YtpnhonhjheahhaaDoor
