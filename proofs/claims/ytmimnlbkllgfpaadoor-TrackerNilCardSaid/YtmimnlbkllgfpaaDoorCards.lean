/-
  DERIVED. GIVEN WITH THE SEED: THE CARDS: each row of YtmimnlbkllgfpaaDoorRows.lean that lists a variable, with what it lists TIED to the program's text (the seventh form; the later family's looks); each row that meets fmt, with fmt's text TOLD by the authors' own Lean function (tested against real Go, not proved from fmt's source: count such statements apart). THE CARD IS WHAT COUNTS. Prove the row's statement (the work); the ties are given (YtmimnlbkllgfpaaDoorTie.lean); close each card by the builder's one call (the guide's Derived/Test/ToyasCard.lean, 'card_holds'). Laid BY PROGRAM, IN A SANDBOX (cutbox-door.mjs). By AI agents, Wed Nov 11 2026. No macro, syntax, notation, axiom, sorry.
-/
import Derived.Test.YtmimnlbkllgfpaaDoorRows
import GoSem.ClaimSeven
namespace Go.Proofs.YtmimnlbkllgfpaaDoor
namespace Rows

/-- THE TIED CARD OF 'mosaiclaw31.TrackerNil'. -/
def trackerNilCard : Claim7 := { stood := { row := trackerNilRow, standIns := [], harness := (true, "1c3c8576f30cd64727e32a40889ad0a2d0bca4c8a954d58089ef32a68c177917"), looks := false }, kinds := [], alts := [], laidByText := true, laidKinds := [.data, .data, .data], laidTests := true, laidLooks := .later }
def TrackerNilCardSaid : Prop := Claim7.holds Tryd.pinned (.plain (OpenSpec.ofChange trackerNilSpec)) trackerNilCard

/-- THE SECOND FORM's CARD OF 'mosaiclaw31.TrackerNil'. -/
def trackerNilUptoCard : Claim7 := { stood := { row := trackerNilUptoRow, standIns := [], harness := (true, "1c3c8576f30cd64727e32a40889ad0a2d0bca4c8a954d58089ef32a68c177917"), looks := false }, kinds := [], alts := [], laidByText := true, laidKinds := [.data, .data, .data], laidTests := true, laidLooks := .later }
def TrackerNilUptoCardSaid : Prop := Claim7.holds Tryd.pinned (.plain (OpenSpec.upto trackerNilSpec)) trackerNilUptoCard
end Rows
end Go.Proofs.YtmimnlbkllgfpaaDoor
