/-
  DERIVED. GIVEN WITH THE SEED: THE CARDS: each row of YtlkfabkkjfmnmaaGreatDoorRows.lean that lists a variable, with what it lists TIED to the program's text (the seventh form; the later family's looks); each row that meets fmt, with fmt's text TOLD by the authors' own Lean function (tested against real Go, not proved from fmt's source: count such statements apart). THE CARD IS WHAT COUNTS. Prove the row's statement (the work); the ties are given (YtlkfabkkjfmnmaaGreatDoorTie.lean); close each card by the builder's one call (the guide's Derived/Test/ToyasCard.lean, 'card_holds'). Laid BY PROGRAM, IN A SANDBOX (cutbox-door.mjs). By AI agents, Wed Nov 11 2026. No macro, syntax, notation, axiom, sorry.
-/
import Derived.Test.YtlkfabkkjfmnmaaGreatDoorRows
import GoSem.ClaimSeven
namespace Go.Proofs.YtlkfabkkjfmnmaaGreatDoor
namespace Rows

/-- THE TIED CARD OF 'laws.FnExactReadBlocks'. -/
def fnExactReadBlocksCard : Claim7 := { stood := { row := fnExactReadBlocksRow, standIns := [], harness := (true, "c1f06c0257b2af07e7e83933390c65b4224523536c84fdf9aead6692d75c8bf5"), looks := false }, kinds := [], alts := [], laidByText := true, laidKinds := [.data], laidTests := true, laidLooks := .later }
def FnExactReadBlocksCardSaid : Prop := Claim7.holds Tryz.pinned (.plain (OpenSpec.ofChange fnExactReadBlocksSpec)) fnExactReadBlocksCard

/-- THE TIED CARD OF 'laws.FnBlocks'. -/
def fnBlocksCard : Claim7 := { stood := { row := fnBlocksRow, standIns := [], harness := (true, "c1f06c0257b2af07e7e83933390c65b4224523536c84fdf9aead6692d75c8bf5"), looks := false }, kinds := [], alts := [], laidByText := true, laidKinds := [.data], laidTests := true, laidLooks := .later }
def FnBlocksCardSaid : Prop := Claim7.holds Tryz.pinned (.plain (OpenSpec.ofChange fnBlocksSpec)) fnBlocksCard

/-- THE SECOND FORM's CARD OF 'laws.FnExactReadBlocks'. -/
def fnExactReadBlocksUptoCard : Claim7 := { stood := { row := fnExactReadBlocksUptoRow, standIns := [], harness := (true, "c1f06c0257b2af07e7e83933390c65b4224523536c84fdf9aead6692d75c8bf5"), looks := false }, kinds := [], alts := [], laidByText := true, laidKinds := [.data], laidTests := true, laidLooks := .later }
def FnExactReadBlocksUptoCardSaid : Prop := Claim7.holds Tryz.pinned (.plain (OpenSpec.upto fnExactReadBlocksSpec)) fnExactReadBlocksUptoCard

/-- THE SECOND FORM's CARD OF 'laws.FnBlocks'. -/
def fnBlocksUptoCard : Claim7 := { stood := { row := fnBlocksUptoRow, standIns := [], harness := (true, "c1f06c0257b2af07e7e83933390c65b4224523536c84fdf9aead6692d75c8bf5"), looks := false }, kinds := [], alts := [], laidByText := true, laidKinds := [.data], laidTests := true, laidLooks := .later }
def FnBlocksUptoCardSaid : Prop := Claim7.holds Tryz.pinned (.plain (OpenSpec.upto fnBlocksSpec)) fnBlocksUptoCard
end Rows
end Go.Proofs.YtlkfabkkjfmnmaaGreatDoor
