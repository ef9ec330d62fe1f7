/-
  DERIVED. GIVEN WITH THE SEED: THE CARDS: each row of YtlkfabkkjfmnmaaDoorRows.lean that lists a variable, with what it lists TIED to the program's text (the seventh form; the later family's looks); each row that meets fmt, with fmt's text TOLD by the authors' own Lean function (tested against real Go, not proved from fmt's source: count such statements apart). THE CARD IS WHAT COUNTS. Prove the row's statement (the work); the ties are given (YtlkfabkkjfmnmaaDoorTie.lean); close each card by the builder's one call (the guide's Derived/Test/ToyasCard.lean, 'card_holds'). Laid BY PROGRAM, IN A SANDBOX (cutbox-door.mjs). By AI agents, Wed Nov 11 2026. No macro, syntax, notation, axiom, sorry.
-/
import Derived.Test.YtlkfabkkjfmnmaaDoorRows
import GoSem.ClaimSeven
namespace Go.Proofs.YtlkfabkkjfmnmaaDoor
namespace Rows

/-- THE TIED CARD OF 'laws.FnExactVolOk'. -/
def fnExactVolOkCard : Claim7 := { stood := { row := fnExactVolOkRow, standIns := [], harness := (true, "3ca06ea8d0c33b0e81b4ecc1384342e106bc861c3233f409eed89534451fab8f"), looks := false }, kinds := [], alts := [], laidByText := true, laidKinds := [.data], laidTests := true, laidLooks := .later }
def FnExactVolOkCardSaid : Prop := Claim7.holds Tryd.pinned (.plain (OpenSpec.ofChange fnExactVolOkSpec)) fnExactVolOkCard

/-- THE TIED CARD OF 'laws.FnExactVolBlocks'. -/
def fnExactVolBlocksCard : Claim7 := { stood := { row := fnExactVolBlocksRow, standIns := [], harness := (true, "3ca06ea8d0c33b0e81b4ecc1384342e106bc861c3233f409eed89534451fab8f"), looks := false }, kinds := [], alts := [], laidByText := true, laidKinds := [.data], laidTests := true, laidLooks := .later }
def FnExactVolBlocksCardSaid : Prop := Claim7.holds Tryd.pinned (.plain (OpenSpec.ofChange fnExactVolBlocksSpec)) fnExactVolBlocksCard

/-- THE SECOND FORM's CARD OF 'laws.FnExactVolOk'. -/
def fnExactVolOkUptoCard : Claim7 := { stood := { row := fnExactVolOkUptoRow, standIns := [], harness := (true, "3ca06ea8d0c33b0e81b4ecc1384342e106bc861c3233f409eed89534451fab8f"), looks := false }, kinds := [], alts := [], laidByText := true, laidKinds := [.data], laidTests := true, laidLooks := .later }
def FnExactVolOkUptoCardSaid : Prop := Claim7.holds Tryd.pinned (.plain (OpenSpec.upto fnExactVolOkSpec)) fnExactVolOkUptoCard

/-- THE SECOND FORM's CARD OF 'laws.FnExactVolBlocks'. -/
def fnExactVolBlocksUptoCard : Claim7 := { stood := { row := fnExactVolBlocksUptoRow, standIns := [], harness := (true, "3ca06ea8d0c33b0e81b4ecc1384342e106bc861c3233f409eed89534451fab8f"), looks := false }, kinds := [], alts := [], laidByText := true, laidKinds := [.data], laidTests := true, laidLooks := .later }
def FnExactVolBlocksUptoCardSaid : Prop := Claim7.holds Tryd.pinned (.plain (OpenSpec.upto fnExactVolBlocksSpec)) fnExactVolBlocksUptoCard
end Rows
end Go.Proofs.YtlkfabkkjfmnmaaDoor
