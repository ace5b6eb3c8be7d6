/-
  DERIVED. GIVEN WITH THE SEED: THE CARDS: each row of YtdccglkmkahblaaDoorRows.lean that lists a variable, with what it lists TIED to the program's text (the seventh form; the later family's looks); each row that meets fmt, with fmt's text TOLD by the authors' own Lean function (tested against real Go, not proved from fmt's source: count such statements apart). THE CARD IS WHAT COUNTS. Prove the row's statement (the work); the ties are given (YtdccglkmkahblaaDoorTie.lean); close each card by the builder's one call (the guide's Derived/Test/ToyasCard.lean, 'card_holds'). Laid BY PROGRAM, IN A SANDBOX (cutbox-door.mjs). By AI agents, Wed Nov 11 2026. No macro, syntax, notation, axiom, sorry.
-/
import Derived.Test.YtdccglkmkahblaaDoorRows
import GoSem.ClaimSeven
namespace Go.Proofs.YtdccglkmkahblaaDoor
namespace Rows

/-- THE TIED CARD OF 'mosaiclaw29.LinkLong'. -/
def linkLongCard : Claim7 := { stood := { row := linkLongRow, standIns := [], harness := (true, "a04efafcc3bbc1640ccb1406842ac4fd7a880531e950ab0e15a76db677f944a9"), looks := true }, kinds := [], alts := [], laidByText := true, laidKinds := [.data, .data, .data], laidTests := true, laidLooks := .later }
def LinkLongCardSaid : Prop := Claim7.holds Tryd.pinned (.plain (OpenSpec.ofChange linkLongSpec)) linkLongCard

/-- THE TIED CARD OF 'mosaiclaw29.LinkTexts'. -/
def linkTextsCard : Claim7 := { stood := { row := linkTextsRow, standIns := [], harness := (true, "a04efafcc3bbc1640ccb1406842ac4fd7a880531e950ab0e15a76db677f944a9"), looks := true }, kinds := [], alts := [], laidByText := true, laidKinds := [.data, .data, .data], laidTests := true, laidLooks := .later }
def LinkTextsCardSaid : Prop := Claim7.holds Tryd.pinned (.plain (OpenSpec.ofChange linkTextsSpec)) linkTextsCard

/-- THE TIED CARD OF 'mosaiclaw29.LinkReads'. -/
def linkReadsCard : Claim7 := { stood := { row := linkReadsRow, standIns := [], harness := (true, "a04efafcc3bbc1640ccb1406842ac4fd7a880531e950ab0e15a76db677f944a9"), looks := true }, kinds := [], alts := [], laidByText := true, laidKinds := [.data, .data, .data, .data, .sentinel, .sentinel, .pinned], laidTests := true, laidLooks := .later }
def LinkReadsCardSaid : Prop := Claim7.holds Tryd.pinned (.plain (OpenSpec.ofChange linkReadsSpec)) linkReadsCard

/-- THE TIED CARD OF 'mosaiclaw29.LinkBack'. -/
def linkBackCard : Claim7 := { stood := { row := linkBackRow, standIns := [], harness := (true, "a04efafcc3bbc1640ccb1406842ac4fd7a880531e950ab0e15a76db677f944a9"), looks := true }, kinds := [], alts := [], laidByText := true, laidKinds := [.data, .data, .data, .data, .sentinel, .sentinel, .pinned], laidTests := true, laidLooks := .later }
def LinkBackCardSaid : Prop := Claim7.holds Tryd.pinned (.plain (OpenSpec.ofChange linkBackSpec)) linkBackCard

/-- THE SECOND FORM's CARD OF 'mosaiclaw29.LinkLong'. -/
def linkLongUptoCard : Claim7 := { stood := { row := linkLongUptoRow, standIns := [], harness := (true, "a04efafcc3bbc1640ccb1406842ac4fd7a880531e950ab0e15a76db677f944a9"), looks := true }, kinds := [], alts := [], laidByText := true, laidKinds := [.data, .data, .data], laidTests := true, laidLooks := .later }
def LinkLongUptoCardSaid : Prop := Claim7.holds Tryd.pinned (.plain (OpenSpec.upto linkLongSpec)) linkLongUptoCard

/-- THE SECOND FORM's CARD OF 'mosaiclaw29.LinkTexts'. -/
def linkTextsUptoCard : Claim7 := { stood := { row := linkTextsUptoRow, standIns := [], harness := (true, "a04efafcc3bbc1640ccb1406842ac4fd7a880531e950ab0e15a76db677f944a9"), looks := true }, kinds := [], alts := [], laidByText := true, laidKinds := [.data, .data, .data], laidTests := true, laidLooks := .later }
def LinkTextsUptoCardSaid : Prop := Claim7.holds Tryd.pinned (.plain (OpenSpec.upto linkTextsSpec)) linkTextsUptoCard

/-- THE SECOND FORM's CARD OF 'mosaiclaw29.LinkReads'. -/
def linkReadsUptoCard : Claim7 := { stood := { row := linkReadsUptoRow, standIns := [], harness := (true, "a04efafcc3bbc1640ccb1406842ac4fd7a880531e950ab0e15a76db677f944a9"), looks := true }, kinds := [], alts := [], laidByText := true, laidKinds := [.data, .data, .data, .data, .sentinel, .sentinel, .pinned], laidTests := true, laidLooks := .later }
def LinkReadsUptoCardSaid : Prop := Claim7.holds Tryd.pinned (.plain (OpenSpec.upto linkReadsSpec)) linkReadsUptoCard

/-- THE SECOND FORM's CARD OF 'mosaiclaw29.LinkBack'. -/
def linkBackUptoCard : Claim7 := { stood := { row := linkBackUptoRow, standIns := [], harness := (true, "a04efafcc3bbc1640ccb1406842ac4fd7a880531e950ab0e15a76db677f944a9"), looks := true }, kinds := [], alts := [], laidByText := true, laidKinds := [.data, .data, .data, .data, .sentinel, .sentinel, .pinned], laidTests := true, laidLooks := .later }
def LinkBackUptoCardSaid : Prop := Claim7.holds Tryd.pinned (.plain (OpenSpec.upto linkBackSpec)) linkBackUptoCard
end Rows
end Go.Proofs.YtdccglkmkahblaaDoor
