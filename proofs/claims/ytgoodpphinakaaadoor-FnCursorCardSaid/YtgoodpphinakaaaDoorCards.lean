/-
  DERIVED. GIVEN WITH THE SEED: THE CARDS: each row of YtgoodpphinakaaaDoorRows.lean that lists a variable, with what it lists TIED to the program's text (the seventh form; the later family's looks); each row that meets fmt, with fmt's text TOLD by the authors' own Lean function (tested against real Go, not proved from fmt's source: count such statements apart). THE CARD IS WHAT COUNTS. Prove the row's statement (the work); the ties are given (YtgoodpphinakaaaDoorTie.lean); close each card by the builder's one call (the guide's Derived/Test/ToyasCard.lean, 'card_holds'). Laid BY PROGRAM, IN A SANDBOX (cutbox-door.mjs). By AI agents, Wed Nov 11 2026. No macro, syntax, notation, axiom, sorry.
-/
import Derived.Test.YtgoodpphinakaaaDoorRows
import GoSem.ClaimSeven
namespace Go.Proofs.YtgoodpphinakaaaDoor
namespace Rows

/-- THE TIED CARD OF 'laws.FnExactKnown'. -/
def fnExactKnownCard : Claim7 := { stood := { row := fnExactKnownRow, standIns := [], harness := (true, "b11f2a7a8fcd6bbc910084274919cb2f86f08e1d3708717adcc257042446a73e"), looks := false }, kinds := [], alts := [], laidByText := true, laidKinds := [.data], laidTests := true, laidLooks := .later }
def FnExactKnownCardSaid : Prop := Claim7.holds Tryd.pinned (.plain (OpenSpec.ofChange fnExactKnownSpec)) fnExactKnownCard

/-- THE TIED CARD OF 'laws.FnExactNameOk'. -/
def fnExactNameOkCard : Claim7 := { stood := { row := fnExactNameOkRow, standIns := [], harness := (true, "b11f2a7a8fcd6bbc910084274919cb2f86f08e1d3708717adcc257042446a73e"), looks := false }, kinds := [], alts := [], laidByText := true, laidKinds := [.data], laidTests := true, laidLooks := .later }
def FnExactNameOkCardSaid : Prop := Claim7.holds Tryd.pinned (.plain (OpenSpec.ofChange fnExactNameOkSpec)) fnExactNameOkCard

/-- THE TIED CARD OF 'laws.FnExactKeyOf'. -/
def fnExactKeyOfCard : Claim7 := { stood := { row := fnExactKeyOfRow, standIns := [], harness := (true, "b11f2a7a8fcd6bbc910084274919cb2f86f08e1d3708717adcc257042446a73e"), looks := false }, kinds := [], alts := [], laidByText := true, laidKinds := [.data], laidTests := true, laidLooks := .later }
def FnExactKeyOfCardSaid : Prop := Claim7.holds Tryd.pinned (.plain (OpenSpec.ofChange fnExactKeyOfSpec)) fnExactKeyOfCard

/-- THE TIED CARD OF 'laws.FnExactAlike'. -/
def fnExactAlikeCard : Claim7 := { stood := { row := fnExactAlikeRow, standIns := [], harness := (true, "b11f2a7a8fcd6bbc910084274919cb2f86f08e1d3708717adcc257042446a73e"), looks := false }, kinds := [], alts := [], laidByText := true, laidKinds := [.data], laidTests := true, laidLooks := .later }
def FnExactAlikeCardSaid : Prop := Claim7.holds Tryd.pinned (.plain (OpenSpec.ofChange fnExactAlikeSpec)) fnExactAlikeCard

/-- THE TIED CARD OF 'laws.FnExactHashOf'. -/
def fnExactHashOfCard : Claim7 := { stood := { row := fnExactHashOfRow, standIns := [], harness := (true, "b11f2a7a8fcd6bbc910084274919cb2f86f08e1d3708717adcc257042446a73e"), looks := false }, kinds := [], alts := [], laidByText := true, laidKinds := [.data], laidTests := true, laidLooks := .later }
def FnExactHashOfCardSaid : Prop := Claim7.holds Tryd.pinned (.plain (OpenSpec.ofChange fnExactHashOfSpec)) fnExactHashOfCard

/-- THE TIED CARD OF 'laws.FnAlike'. -/
def fnAlikeCard : Claim7 := { stood := { row := fnAlikeRow, standIns := [], harness := (true, "b11f2a7a8fcd6bbc910084274919cb2f86f08e1d3708717adcc257042446a73e"), looks := false }, kinds := [], alts := [], laidByText := true, laidKinds := [.data], laidTests := true, laidLooks := .later }
def FnAlikeCardSaid : Prop := Claim7.holds Tryd.pinned (.plain (OpenSpec.ofChange fnAlikeSpec)) fnAlikeCard

/-- THE TIED CARD OF 'laws.FnExactDirOk'. -/
def fnExactDirOkCard : Claim7 := { stood := { row := fnExactDirOkRow, standIns := [], harness := (true, "b11f2a7a8fcd6bbc910084274919cb2f86f08e1d3708717adcc257042446a73e"), looks := false }, kinds := [], alts := [], laidByText := true, laidKinds := [.data], laidTests := true, laidLooks := .later }
def FnExactDirOkCardSaid : Prop := Claim7.holds Tryd.pinned (.plain (OpenSpec.ofChange fnExactDirOkSpec)) fnExactDirOkCard

/-- THE TIED CARD OF 'laws.FnExactNext'. -/
def fnExactNextCard : Claim7 := { stood := { row := fnExactNextRow, standIns := [], harness := (true, "b11f2a7a8fcd6bbc910084274919cb2f86f08e1d3708717adcc257042446a73e"), looks := false }, kinds := [], alts := [], laidByText := true, laidKinds := [.data], laidTests := true, laidLooks := .later }
def FnExactNextCardSaid : Prop := Claim7.holds Tryd.pinned (.plain (OpenSpec.ofChange fnExactNextSpec)) fnExactNextCard

/-- THE TIED CARD OF 'laws.FnExactLook'. -/
def fnExactLookCard : Claim7 := { stood := { row := fnExactLookRow, standIns := [], harness := (true, "b11f2a7a8fcd6bbc910084274919cb2f86f08e1d3708717adcc257042446a73e"), looks := false }, kinds := [], alts := [], laidByText := true, laidKinds := [.data], laidTests := true, laidLooks := .later }
def FnExactLookCardSaid : Prop := Claim7.holds Tryd.pinned (.plain (OpenSpec.ofChange fnExactLookSpec)) fnExactLookCard

/-- THE TIED CARD OF 'laws.FnScan'. -/
def fnScanCard : Claim7 := { stood := { row := fnScanRow, standIns := [], harness := (true, "b11f2a7a8fcd6bbc910084274919cb2f86f08e1d3708717adcc257042446a73e"), looks := false }, kinds := [], alts := [], laidByText := true, laidKinds := [.data], laidTests := true, laidLooks := .later }
def FnScanCardSaid : Prop := Claim7.holds Tryd.pinned (.plain (OpenSpec.ofChange fnScanSpec)) fnScanCard

/-- THE TIED CARD OF 'laws.FnDir'. -/
def fnDirCard : Claim7 := { stood := { row := fnDirRow, standIns := [], harness := (true, "b11f2a7a8fcd6bbc910084274919cb2f86f08e1d3708717adcc257042446a73e"), looks := false }, kinds := [], alts := [], laidByText := true, laidKinds := [.data], laidTests := true, laidLooks := .later }
def FnDirCardSaid : Prop := Claim7.holds Tryd.pinned (.plain (OpenSpec.ofChange fnDirSpec)) fnDirCard

/-- THE TIED CARD OF 'laws.FnCursor'. -/
def fnCursorCard : Claim7 := { stood := { row := fnCursorRow, standIns := [], harness := (true, "b11f2a7a8fcd6bbc910084274919cb2f86f08e1d3708717adcc257042446a73e"), looks := false }, kinds := [], alts := [], laidByText := true, laidKinds := [.data], laidTests := true, laidLooks := .later }
def FnCursorCardSaid : Prop := Claim7.holds Tryd.pinned (.plain (OpenSpec.ofChange fnCursorSpec)) fnCursorCard

/-- THE SECOND FORM's CARD OF 'laws.FnExactKnown'. -/
def fnExactKnownUptoCard : Claim7 := { stood := { row := fnExactKnownUptoRow, standIns := [], harness := (true, "b11f2a7a8fcd6bbc910084274919cb2f86f08e1d3708717adcc257042446a73e"), looks := false }, kinds := [], alts := [], laidByText := true, laidKinds := [.data], laidTests := true, laidLooks := .later }
def FnExactKnownUptoCardSaid : Prop := Claim7.holds Tryd.pinned (.plain (OpenSpec.upto fnExactKnownSpec)) fnExactKnownUptoCard

/-- THE SECOND FORM's CARD OF 'laws.FnExactNameOk'. -/
def fnExactNameOkUptoCard : Claim7 := { stood := { row := fnExactNameOkUptoRow, standIns := [], harness := (true, "b11f2a7a8fcd6bbc910084274919cb2f86f08e1d3708717adcc257042446a73e"), looks := false }, kinds := [], alts := [], laidByText := true, laidKinds := [.data], laidTests := true, laidLooks := .later }
def FnExactNameOkUptoCardSaid : Prop := Claim7.holds Tryd.pinned (.plain (OpenSpec.upto fnExactNameOkSpec)) fnExactNameOkUptoCard

/-- THE SECOND FORM's CARD OF 'laws.FnExactKeyOf'. -/
def fnExactKeyOfUptoCard : Claim7 := { stood := { row := fnExactKeyOfUptoRow, standIns := [], harness := (true, "b11f2a7a8fcd6bbc910084274919cb2f86f08e1d3708717adcc257042446a73e"), looks := false }, kinds := [], alts := [], laidByText := true, laidKinds := [.data], laidTests := true, laidLooks := .later }
def FnExactKeyOfUptoCardSaid : Prop := Claim7.holds Tryd.pinned (.plain (OpenSpec.upto fnExactKeyOfSpec)) fnExactKeyOfUptoCard

/-- THE SECOND FORM's CARD OF 'laws.FnExactAlike'. -/
def fnExactAlikeUptoCard : Claim7 := { stood := { row := fnExactAlikeUptoRow, standIns := [], harness := (true, "b11f2a7a8fcd6bbc910084274919cb2f86f08e1d3708717adcc257042446a73e"), looks := false }, kinds := [], alts := [], laidByText := true, laidKinds := [.data], laidTests := true, laidLooks := .later }
def FnExactAlikeUptoCardSaid : Prop := Claim7.holds Tryd.pinned (.plain (OpenSpec.upto fnExactAlikeSpec)) fnExactAlikeUptoCard

/-- THE SECOND FORM's CARD OF 'laws.FnExactHashOf'. -/
def fnExactHashOfUptoCard : Claim7 := { stood := { row := fnExactHashOfUptoRow, standIns := [], harness := (true, "b11f2a7a8fcd6bbc910084274919cb2f86f08e1d3708717adcc257042446a73e"), looks := false }, kinds := [], alts := [], laidByText := true, laidKinds := [.data], laidTests := true, laidLooks := .later }
def FnExactHashOfUptoCardSaid : Prop := Claim7.holds Tryd.pinned (.plain (OpenSpec.upto fnExactHashOfSpec)) fnExactHashOfUptoCard

/-- THE SECOND FORM's CARD OF 'laws.FnAlike'. -/
def fnAlikeUptoCard : Claim7 := { stood := { row := fnAlikeUptoRow, standIns := [], harness := (true, "b11f2a7a8fcd6bbc910084274919cb2f86f08e1d3708717adcc257042446a73e"), looks := false }, kinds := [], alts := [], laidByText := true, laidKinds := [.data], laidTests := true, laidLooks := .later }
def FnAlikeUptoCardSaid : Prop := Claim7.holds Tryd.pinned (.plain (OpenSpec.upto fnAlikeSpec)) fnAlikeUptoCard

/-- THE SECOND FORM's CARD OF 'laws.FnExactDirOk'. -/
def fnExactDirOkUptoCard : Claim7 := { stood := { row := fnExactDirOkUptoRow, standIns := [], harness := (true, "b11f2a7a8fcd6bbc910084274919cb2f86f08e1d3708717adcc257042446a73e"), looks := false }, kinds := [], alts := [], laidByText := true, laidKinds := [.data], laidTests := true, laidLooks := .later }
def FnExactDirOkUptoCardSaid : Prop := Claim7.holds Tryd.pinned (.plain (OpenSpec.upto fnExactDirOkSpec)) fnExactDirOkUptoCard

/-- THE SECOND FORM's CARD OF 'laws.FnExactNext'. -/
def fnExactNextUptoCard : Claim7 := { stood := { row := fnExactNextUptoRow, standIns := [], harness := (true, "b11f2a7a8fcd6bbc910084274919cb2f86f08e1d3708717adcc257042446a73e"), looks := false }, kinds := [], alts := [], laidByText := true, laidKinds := [.data], laidTests := true, laidLooks := .later }
def FnExactNextUptoCardSaid : Prop := Claim7.holds Tryd.pinned (.plain (OpenSpec.upto fnExactNextSpec)) fnExactNextUptoCard

/-- THE SECOND FORM's CARD OF 'laws.FnExactLook'. -/
def fnExactLookUptoCard : Claim7 := { stood := { row := fnExactLookUptoRow, standIns := [], harness := (true, "b11f2a7a8fcd6bbc910084274919cb2f86f08e1d3708717adcc257042446a73e"), looks := false }, kinds := [], alts := [], laidByText := true, laidKinds := [.data], laidTests := true, laidLooks := .later }
def FnExactLookUptoCardSaid : Prop := Claim7.holds Tryd.pinned (.plain (OpenSpec.upto fnExactLookSpec)) fnExactLookUptoCard

/-- THE SECOND FORM's CARD OF 'laws.FnScan'. -/
def fnScanUptoCard : Claim7 := { stood := { row := fnScanUptoRow, standIns := [], harness := (true, "b11f2a7a8fcd6bbc910084274919cb2f86f08e1d3708717adcc257042446a73e"), looks := false }, kinds := [], alts := [], laidByText := true, laidKinds := [.data], laidTests := true, laidLooks := .later }
def FnScanUptoCardSaid : Prop := Claim7.holds Tryd.pinned (.plain (OpenSpec.upto fnScanSpec)) fnScanUptoCard

/-- THE SECOND FORM's CARD OF 'laws.FnDir'. -/
def fnDirUptoCard : Claim7 := { stood := { row := fnDirUptoRow, standIns := [], harness := (true, "b11f2a7a8fcd6bbc910084274919cb2f86f08e1d3708717adcc257042446a73e"), looks := false }, kinds := [], alts := [], laidByText := true, laidKinds := [.data], laidTests := true, laidLooks := .later }
def FnDirUptoCardSaid : Prop := Claim7.holds Tryd.pinned (.plain (OpenSpec.upto fnDirSpec)) fnDirUptoCard

/-- THE SECOND FORM's CARD OF 'laws.FnCursor'. -/
def fnCursorUptoCard : Claim7 := { stood := { row := fnCursorUptoRow, standIns := [], harness := (true, "b11f2a7a8fcd6bbc910084274919cb2f86f08e1d3708717adcc257042446a73e"), looks := false }, kinds := [], alts := [], laidByText := true, laidKinds := [.data], laidTests := true, laidLooks := .later }
def FnCursorUptoCardSaid : Prop := Claim7.holds Tryd.pinned (.plain (OpenSpec.upto fnCursorSpec)) fnCursorUptoCard
end Rows
end Go.Proofs.YtgoodpphinakaaaDoor
