/-
  DERIVED. GIVEN WITH THE SEED: THE CARDS: each row of YtmgpldgldgdenaaDoorRows.lean that lists a variable, with what it lists TIED to the program's text (the seventh form; the later family's looks); each row that meets fmt, with fmt's text TOLD by the authors' own Lean function (tested against real Go, not proved from fmt's source: count such statements apart). THE CARD IS WHAT COUNTS. Prove the row's statement (the work); the ties are given (YtmgpldgldgdenaaDoorTie.lean); close each card by the builder's one call (the guide's Derived/Test/ToyasCard.lean, 'card_holds'). Laid BY PROGRAM, IN A SANDBOX (cutbox-door.mjs). By AI agents, Wed Nov 11 2026. No macro, syntax, notation, axiom, sorry.
-/
import Derived.Test.YtmgpldgldgdenaaDoorRows
import GoSem.ClaimSeven
namespace Go.Proofs.YtmgpldgldgdenaaDoor
namespace Rows

/-- THE TIED CARD OF 'fieldfarelaw1.DevOwn'. -/
def devOwnCard : Claim7 := { stood := { row := devOwnRow, standIns := [], harness := (true, "9d33f7a6d6dc3206f3e623cec8d5259f31e98f6248ceac0f7d9f80939beeefd8"), looks := true }, kinds := [], alts := [], laidByText := true, laidKinds := [.handle], laidTests := true, laidLooks := .later }
def DevOwnCardSaid : Prop := Claim7.holds Tryd.pinned (.plain (OpenSpec.ofChange devOwnSpec)) devOwnCard

/-- THE TIED CARD OF 'fieldfarelaw1.BinAll'. -/
def binAllCard : Claim7 := { stood := { row := binAllRow, standIns := [], harness := (true, "9d33f7a6d6dc3206f3e623cec8d5259f31e98f6248ceac0f7d9f80939beeefd8"), looks := true }, kinds := [], alts := [], laidByText := true, laidKinds := [.handle], laidTests := true, laidLooks := .later }
def BinAllCardSaid : Prop := Claim7.holds Tryd.pinned (.plain (OpenSpec.ofChange binAllSpec)) binAllCard

/-- THE TIED CARD OF 'fieldfarelaw1.BinLeast'. -/
def binLeastCard : Claim7 := { stood := { row := binLeastRow, standIns := [], harness := (true, "9d33f7a6d6dc3206f3e623cec8d5259f31e98f6248ceac0f7d9f80939beeefd8"), looks := true }, kinds := [], alts := [], laidByText := true, laidKinds := [.handle], laidTests := true, laidLooks := .later }
def BinLeastCardSaid : Prop := Claim7.holds Tryd.pinned (.plain (OpenSpec.ofChange binLeastSpec)) binLeastCard

/-- THE TIED CARD OF 'fieldfarelaw1.BinCut'. -/
def binCutCard : Claim7 := { stood := { row := binCutRow, standIns := [], harness := (true, "9d33f7a6d6dc3206f3e623cec8d5259f31e98f6248ceac0f7d9f80939beeefd8"), looks := true }, kinds := [], alts := [], laidByText := true, laidKinds := [.handle], laidTests := true, laidLooks := .later }
def BinCutCardSaid : Prop := Claim7.holds Tryd.pinned (.plain (OpenSpec.ofChange binCutSpec)) binCutCard

/-- THE TIED CARD OF 'fieldfarelaw1.BinText'. -/
def binTextCard : Claim7 := { stood := { row := binTextRow, standIns := [], harness := (true, "9d33f7a6d6dc3206f3e623cec8d5259f31e98f6248ceac0f7d9f80939beeefd8"), looks := true }, kinds := [], alts := [], laidByText := true, laidKinds := [.handle], laidTests := true, laidLooks := .later }
def BinTextCardSaid : Prop := Claim7.holds Tryd.pinned (.plain (OpenSpec.ofChange binTextSpec)) binTextCard

/-- THE TIED CARD OF 'fieldfarelaw1.BinUnlike'. -/
def binUnlikeCard : Claim7 := { stood := { row := binUnlikeRow, standIns := [], harness := (true, "9d33f7a6d6dc3206f3e623cec8d5259f31e98f6248ceac0f7d9f80939beeefd8"), looks := true }, kinds := [], alts := [], laidByText := true, laidKinds := [.handle], laidTests := true, laidLooks := .later }
def BinUnlikeCardSaid : Prop := Claim7.holds Tryd.pinned (.plain (OpenSpec.ofChange binUnlikeSpec)) binUnlikeCard

/-- THE TIED CARD OF 'fieldfarelaw1.DevLoose'. -/
def devLooseCard : Claim7 := { stood := { row := devLooseRow, standIns := [], harness := (true, "9d33f7a6d6dc3206f3e623cec8d5259f31e98f6248ceac0f7d9f80939beeefd8"), looks := true }, kinds := [], alts := [], laidByText := true, laidKinds := [.handle], laidTests := true, laidLooks := .later }
def DevLooseCardSaid : Prop := Claim7.holds Tryd.pinned (.plain (OpenSpec.ofChange devLooseSpec)) devLooseCard

/-- THE TIED CARD OF 'fieldfarelaw1.DevAgain'. -/
def devAgainCard : Claim7 := { stood := { row := devAgainRow, standIns := [], harness := (true, "9d33f7a6d6dc3206f3e623cec8d5259f31e98f6248ceac0f7d9f80939beeefd8"), looks := true }, kinds := [], alts := [], laidByText := true, laidKinds := [.handle], laidTests := true, laidLooks := .later }
def DevAgainCardSaid : Prop := Claim7.holds Tryd.pinned (.plain (OpenSpec.ofChange devAgainSpec)) devAgainCard

/-- THE TIED CARD OF 'fieldfarelaw1.DevAll'. -/
def devAllCard : Claim7 := { stood := { row := devAllRow, standIns := [], harness := (true, "9d33f7a6d6dc3206f3e623cec8d5259f31e98f6248ceac0f7d9f80939beeefd8"), looks := true }, kinds := [], alts := [], laidByText := true, laidKinds := [.handle], laidTests := true, laidLooks := .later }
def DevAllCardSaid : Prop := Claim7.holds Tryd.pinned (.plain (OpenSpec.ofChange devAllSpec)) devAllCard

/-- THE TIED CARD OF 'fieldfarelaw1.DevFuse'. -/
def devFuseCard : Claim7 := { stood := { row := devFuseRow, standIns := [], harness := (true, "9d33f7a6d6dc3206f3e623cec8d5259f31e98f6248ceac0f7d9f80939beeefd8"), looks := true }, kinds := [], alts := [], laidByText := true, laidKinds := [.handle], laidTests := true, laidLooks := .later }
def DevFuseCardSaid : Prop := Claim7.holds Tryd.pinned (.plain (OpenSpec.ofChange devFuseSpec)) devFuseCard

/-- THE TIED CARD OF 'fieldfarelaw1.PartsNone'. -/
def partsNoneCard : Claim7 := { stood := { row := partsNoneRow, standIns := [], harness := (true, "9d33f7a6d6dc3206f3e623cec8d5259f31e98f6248ceac0f7d9f80939beeefd8"), looks := true }, kinds := [], alts := [], laidByText := true, laidKinds := [.handle], laidTests := true, laidLooks := .later }
def PartsNoneCardSaid : Prop := Claim7.holds Tryd.pinned (.plain (OpenSpec.ofChange partsNoneSpec)) partsNoneCard

/-- THE TIED CARD OF 'fieldfarelaw1.DevBad'. -/
def devBadCard : Claim7 := { stood := { row := devBadRow, standIns := [], harness := (true, "9d33f7a6d6dc3206f3e623cec8d5259f31e98f6248ceac0f7d9f80939beeefd8"), looks := true }, kinds := [], alts := [], laidByText := true, laidKinds := [.handle], laidTests := true, laidLooks := .later }
def DevBadCardSaid : Prop := Claim7.holds Tryd.pinned (.plain (OpenSpec.ofChange devBadSpec)) devBadCard

/-- THE TIED CARD OF 'fieldfarelaw1.FailNone'. -/
def failNoneCard : Claim7 := { stood := { row := failNoneRow, standIns := [], harness := (true, "9d33f7a6d6dc3206f3e623cec8d5259f31e98f6248ceac0f7d9f80939beeefd8"), looks := true }, kinds := [], alts := [], laidByText := true, laidKinds := [.handle], laidTests := true, laidLooks := .later }
def FailNoneCardSaid : Prop := Claim7.holds Tryd.pinned (.plain (OpenSpec.ofChange failNoneSpec)) failNoneCard

/-- THE SECOND FORM's CARD OF 'fieldfarelaw1.DevOwn'. -/
def devOwnUptoCard : Claim7 := { stood := { row := devOwnUptoRow, standIns := [], harness := (true, "9d33f7a6d6dc3206f3e623cec8d5259f31e98f6248ceac0f7d9f80939beeefd8"), looks := true }, kinds := [], alts := [], laidByText := true, laidKinds := [.handle], laidTests := true, laidLooks := .later }
def DevOwnUptoCardSaid : Prop := Claim7.holds Tryd.pinned (.plain (OpenSpec.upto devOwnSpec)) devOwnUptoCard

/-- THE SECOND FORM's CARD OF 'fieldfarelaw1.BinAll'. -/
def binAllUptoCard : Claim7 := { stood := { row := binAllUptoRow, standIns := [], harness := (true, "9d33f7a6d6dc3206f3e623cec8d5259f31e98f6248ceac0f7d9f80939beeefd8"), looks := true }, kinds := [], alts := [], laidByText := true, laidKinds := [.handle], laidTests := true, laidLooks := .later }
def BinAllUptoCardSaid : Prop := Claim7.holds Tryd.pinned (.plain (OpenSpec.upto binAllSpec)) binAllUptoCard

/-- THE SECOND FORM's CARD OF 'fieldfarelaw1.BinLeast'. -/
def binLeastUptoCard : Claim7 := { stood := { row := binLeastUptoRow, standIns := [], harness := (true, "9d33f7a6d6dc3206f3e623cec8d5259f31e98f6248ceac0f7d9f80939beeefd8"), looks := true }, kinds := [], alts := [], laidByText := true, laidKinds := [.handle], laidTests := true, laidLooks := .later }
def BinLeastUptoCardSaid : Prop := Claim7.holds Tryd.pinned (.plain (OpenSpec.upto binLeastSpec)) binLeastUptoCard

/-- THE SECOND FORM's CARD OF 'fieldfarelaw1.BinCut'. -/
def binCutUptoCard : Claim7 := { stood := { row := binCutUptoRow, standIns := [], harness := (true, "9d33f7a6d6dc3206f3e623cec8d5259f31e98f6248ceac0f7d9f80939beeefd8"), looks := true }, kinds := [], alts := [], laidByText := true, laidKinds := [.handle], laidTests := true, laidLooks := .later }
def BinCutUptoCardSaid : Prop := Claim7.holds Tryd.pinned (.plain (OpenSpec.upto binCutSpec)) binCutUptoCard

/-- THE SECOND FORM's CARD OF 'fieldfarelaw1.BinText'. -/
def binTextUptoCard : Claim7 := { stood := { row := binTextUptoRow, standIns := [], harness := (true, "9d33f7a6d6dc3206f3e623cec8d5259f31e98f6248ceac0f7d9f80939beeefd8"), looks := true }, kinds := [], alts := [], laidByText := true, laidKinds := [.handle], laidTests := true, laidLooks := .later }
def BinTextUptoCardSaid : Prop := Claim7.holds Tryd.pinned (.plain (OpenSpec.upto binTextSpec)) binTextUptoCard

/-- THE SECOND FORM's CARD OF 'fieldfarelaw1.BinUnlike'. -/
def binUnlikeUptoCard : Claim7 := { stood := { row := binUnlikeUptoRow, standIns := [], harness := (true, "9d33f7a6d6dc3206f3e623cec8d5259f31e98f6248ceac0f7d9f80939beeefd8"), looks := true }, kinds := [], alts := [], laidByText := true, laidKinds := [.handle], laidTests := true, laidLooks := .later }
def BinUnlikeUptoCardSaid : Prop := Claim7.holds Tryd.pinned (.plain (OpenSpec.upto binUnlikeSpec)) binUnlikeUptoCard

/-- THE SECOND FORM's CARD OF 'fieldfarelaw1.DevLoose'. -/
def devLooseUptoCard : Claim7 := { stood := { row := devLooseUptoRow, standIns := [], harness := (true, "9d33f7a6d6dc3206f3e623cec8d5259f31e98f6248ceac0f7d9f80939beeefd8"), looks := true }, kinds := [], alts := [], laidByText := true, laidKinds := [.handle], laidTests := true, laidLooks := .later }
def DevLooseUptoCardSaid : Prop := Claim7.holds Tryd.pinned (.plain (OpenSpec.upto devLooseSpec)) devLooseUptoCard

/-- THE SECOND FORM's CARD OF 'fieldfarelaw1.DevAgain'. -/
def devAgainUptoCard : Claim7 := { stood := { row := devAgainUptoRow, standIns := [], harness := (true, "9d33f7a6d6dc3206f3e623cec8d5259f31e98f6248ceac0f7d9f80939beeefd8"), looks := true }, kinds := [], alts := [], laidByText := true, laidKinds := [.handle], laidTests := true, laidLooks := .later }
def DevAgainUptoCardSaid : Prop := Claim7.holds Tryd.pinned (.plain (OpenSpec.upto devAgainSpec)) devAgainUptoCard

/-- THE SECOND FORM's CARD OF 'fieldfarelaw1.DevAll'. -/
def devAllUptoCard : Claim7 := { stood := { row := devAllUptoRow, standIns := [], harness := (true, "9d33f7a6d6dc3206f3e623cec8d5259f31e98f6248ceac0f7d9f80939beeefd8"), looks := true }, kinds := [], alts := [], laidByText := true, laidKinds := [.handle], laidTests := true, laidLooks := .later }
def DevAllUptoCardSaid : Prop := Claim7.holds Tryd.pinned (.plain (OpenSpec.upto devAllSpec)) devAllUptoCard

/-- THE SECOND FORM's CARD OF 'fieldfarelaw1.DevFuse'. -/
def devFuseUptoCard : Claim7 := { stood := { row := devFuseUptoRow, standIns := [], harness := (true, "9d33f7a6d6dc3206f3e623cec8d5259f31e98f6248ceac0f7d9f80939beeefd8"), looks := true }, kinds := [], alts := [], laidByText := true, laidKinds := [.handle], laidTests := true, laidLooks := .later }
def DevFuseUptoCardSaid : Prop := Claim7.holds Tryd.pinned (.plain (OpenSpec.upto devFuseSpec)) devFuseUptoCard

/-- THE SECOND FORM's CARD OF 'fieldfarelaw1.PartsNone'. -/
def partsNoneUptoCard : Claim7 := { stood := { row := partsNoneUptoRow, standIns := [], harness := (true, "9d33f7a6d6dc3206f3e623cec8d5259f31e98f6248ceac0f7d9f80939beeefd8"), looks := true }, kinds := [], alts := [], laidByText := true, laidKinds := [.handle], laidTests := true, laidLooks := .later }
def PartsNoneUptoCardSaid : Prop := Claim7.holds Tryd.pinned (.plain (OpenSpec.upto partsNoneSpec)) partsNoneUptoCard

/-- THE SECOND FORM's CARD OF 'fieldfarelaw1.DevBad'. -/
def devBadUptoCard : Claim7 := { stood := { row := devBadUptoRow, standIns := [], harness := (true, "9d33f7a6d6dc3206f3e623cec8d5259f31e98f6248ceac0f7d9f80939beeefd8"), looks := true }, kinds := [], alts := [], laidByText := true, laidKinds := [.handle], laidTests := true, laidLooks := .later }
def DevBadUptoCardSaid : Prop := Claim7.holds Tryd.pinned (.plain (OpenSpec.upto devBadSpec)) devBadUptoCard

/-- THE SECOND FORM's CARD OF 'fieldfarelaw1.FailNone'. -/
def failNoneUptoCard : Claim7 := { stood := { row := failNoneUptoRow, standIns := [], harness := (true, "9d33f7a6d6dc3206f3e623cec8d5259f31e98f6248ceac0f7d9f80939beeefd8"), looks := true }, kinds := [], alts := [], laidByText := true, laidKinds := [.handle], laidTests := true, laidLooks := .later }
def FailNoneUptoCardSaid : Prop := Claim7.holds Tryd.pinned (.plain (OpenSpec.upto failNoneSpec)) failNoneUptoCard
end Rows
end Go.Proofs.YtmgpldgldgdenaaDoor
