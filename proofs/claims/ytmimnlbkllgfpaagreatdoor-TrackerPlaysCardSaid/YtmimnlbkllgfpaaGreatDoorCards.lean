/-
  DERIVED. GIVEN WITH THE SEED: THE CARDS: each row of YtmimnlbkllgfpaaGreatDoorRows.lean that lists a variable, with what it lists TIED to the program's text (the seventh form; the later family's looks); each row that meets fmt, with fmt's text TOLD by the authors' own Lean function (tested against real Go, not proved from fmt's source: count such statements apart). THE CARD IS WHAT COUNTS. Prove the row's statement (the work); the ties are given (YtmimnlbkllgfpaaGreatDoorTie.lean); close each card by the builder's one call (the guide's Derived/Test/ToyasCard.lean, 'card_holds'). Laid BY PROGRAM, IN A SANDBOX (cutbox-door.mjs). By AI agents, Wed Nov 11 2026. No macro, syntax, notation, axiom, sorry.
-/
import Derived.Test.YtmimnlbkllgfpaaGreatDoorRows
import GoSem.ClaimSeven
namespace Go.Proofs.YtmimnlbkllgfpaaGreatDoor
namespace Rows

/-- THE TIED CARD OF 'mosaiclaw31.TrackerPlays'. -/
def trackerPlaysCard : Claim7 := { stood := { row := trackerPlaysRow, standIns := [], harness := (true, "2e7091c71ff74a142690d6cd5097b547cff60e93fe1677f8bf13a3dc6a240615"), looks := true }, kinds := [], alts := [], laidByText := true, laidKinds := [.data, .data, .data], laidTests := true, laidLooks := .later }
def TrackerPlaysCardSaid : Prop := Claim7.holds Tryz.pinned (.plain (OpenSpec.ofChange trackerPlaysSpec)) trackerPlaysCard

/-- THE TIED CARD OF 'mosaiclaw31.TrackerLinks'. -/
def trackerLinksCard : Claim7 := { stood := { row := trackerLinksRow, standIns := [], harness := (true, "2e7091c71ff74a142690d6cd5097b547cff60e93fe1677f8bf13a3dc6a240615"), looks := true }, kinds := [], alts := [], laidByText := true, laidKinds := [.data, .data, .data, .data, .sentinel, .sentinel, .pinned], laidTests := true, laidLooks := .later }
def TrackerLinksCardSaid : Prop := Claim7.holds Tryz.pinned (.plain (OpenSpec.ofChange trackerLinksSpec)) trackerLinksCard

/-- THE SECOND FORM's CARD OF 'mosaiclaw31.TrackerPlays'. -/
def trackerPlaysUptoCard : Claim7 := { stood := { row := trackerPlaysUptoRow, standIns := [], harness := (true, "2e7091c71ff74a142690d6cd5097b547cff60e93fe1677f8bf13a3dc6a240615"), looks := true }, kinds := [], alts := [], laidByText := true, laidKinds := [.data, .data, .data], laidTests := true, laidLooks := .later }
def TrackerPlaysUptoCardSaid : Prop := Claim7.holds Tryz.pinned (.plain (OpenSpec.upto trackerPlaysSpec)) trackerPlaysUptoCard

/-- THE SECOND FORM's CARD OF 'mosaiclaw31.TrackerLinks'. -/
def trackerLinksUptoCard : Claim7 := { stood := { row := trackerLinksUptoRow, standIns := [], harness := (true, "2e7091c71ff74a142690d6cd5097b547cff60e93fe1677f8bf13a3dc6a240615"), looks := true }, kinds := [], alts := [], laidByText := true, laidKinds := [.data, .data, .data, .data, .sentinel, .sentinel, .pinned], laidTests := true, laidLooks := .later }
def TrackerLinksUptoCardSaid : Prop := Claim7.holds Tryz.pinned (.plain (OpenSpec.upto trackerLinksSpec)) trackerLinksUptoCard
end Rows
end Go.Proofs.YtmimnlbkllgfpaaGreatDoor
