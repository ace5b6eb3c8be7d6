/-
  DERIVED. GIVEN WITH THE SEED: THE CARDS: each row of YtbbncdbihiipcaaDoorRows.lean that lists a variable, with what it lists TIED to the program's text (the seventh form; the later family's looks); each row that meets fmt, with fmt's text TOLD by the authors' own Lean function (tested against real Go, not proved from fmt's source: count such statements apart). THE CARD IS WHAT COUNTS. Prove the row's statement (the work); the ties are given (YtbbncdbihiipcaaDoorTie.lean); close each card by the builder's one call (the guide's Derived/Test/ToyasCard.lean, 'card_holds'). Laid BY PROGRAM, IN A SANDBOX (cutbox-door.mjs). By AI agents, Wed Nov 11 2026. No macro, syntax, notation, axiom, sorry.
-/
import Derived.Test.YtbbncdbihiipcaaDoorRows
import GoSem.ClaimSeven
namespace Go.Proofs.YtbbncdbihiipcaaDoor
namespace Rows

/-- THE TIED CARD OF 'mosaiclaw25.RunsOf'. -/
def runsOfCard : Claim7 := { stood := { row := runsOfRow, standIns := [], harness := (true, "165dce22cb7fbf06dc9f9d1a3ced48c2771edb6b8bc891f578de994ac704de0e"), looks := true }, kinds := [], alts := [], laidByText := true, laidKinds := [.data, .data, .data], laidTests := true, laidLooks := .later }
def RunsOfCardSaid : Prop := Claim7.holds Tryd.pinned (.plain (OpenSpec.ofChange runsOfSpec)) runsOfCard

/-- THE TIED CARD OF 'mosaiclaw25.RunsTile'. -/
def runsTileCard : Claim7 := { stood := { row := runsTileRow, standIns := [], harness := (true, "165dce22cb7fbf06dc9f9d1a3ced48c2771edb6b8bc891f578de994ac704de0e"), looks := true }, kinds := [], alts := [], laidByText := true, laidKinds := [.data, .data, .data], laidTests := true, laidLooks := .later }
def RunsTileCardSaid : Prop := Claim7.holds Tryd.pinned (.plain (OpenSpec.ofChange runsTileSpec)) runsTileCard

/-- THE TIED CARD OF 'mosaiclaw25.RunsPacks'. -/
def runsPacksCard : Claim7 := { stood := { row := runsPacksRow, standIns := [], harness := (true, "165dce22cb7fbf06dc9f9d1a3ced48c2771edb6b8bc891f578de994ac704de0e"), looks := true }, kinds := [], alts := [], laidByText := true, laidKinds := [.data, .data, .data], laidTests := true, laidLooks := .later }
def RunsPacksCardSaid : Prop := Claim7.holds Tryd.pinned (.plain (OpenSpec.ofChange runsPacksSpec)) runsPacksCard

/-- THE TIED CARD OF 'mosaiclaw25.RunsPatches'. -/
def runsPatchesCard : Claim7 := { stood := { row := runsPatchesRow, standIns := [], harness := (true, "165dce22cb7fbf06dc9f9d1a3ced48c2771edb6b8bc891f578de994ac704de0e"), looks := true }, kinds := [], alts := [], laidByText := true, laidKinds := [.data, .data, .data], laidTests := true, laidLooks := .later }
def RunsPatchesCardSaid : Prop := Claim7.holds Tryd.pinned (.plain (OpenSpec.ofChange runsPatchesSpec)) runsPatchesCard

/-- THE TIED CARD OF 'mosaiclaw25.RunsTurns'. -/
def runsTurnsCard : Claim7 := { stood := { row := runsTurnsRow, standIns := [], harness := (true, "165dce22cb7fbf06dc9f9d1a3ced48c2771edb6b8bc891f578de994ac704de0e"), looks := true }, kinds := [], alts := [], laidByText := true, laidKinds := [.data, .data, .data], laidTests := true, laidLooks := .later }
def RunsTurnsCardSaid : Prop := Claim7.holds Tryd.pinned (.plain (OpenSpec.ofChange runsTurnsSpec)) runsTurnsCard

/-- THE TIED CARD OF 'mosaiclaw25.RunsTexts'. -/
def runsTextsCard : Claim7 := { stood := { row := runsTextsRow, standIns := [], harness := (true, "165dce22cb7fbf06dc9f9d1a3ced48c2771edb6b8bc891f578de994ac704de0e"), looks := true }, kinds := [], alts := [], laidByText := true, laidKinds := [.data, .data, .data, .data, .sentinel, .sentinel, .pinned], laidTests := true, laidLooks := .later }
def RunsTextsCardSaid : Prop := Claim7.holds Tryd.pinned (.plain (OpenSpec.ofChange runsTextsSpec)) runsTextsCard

/-- THE TIED CARD OF 'mosaiclaw25.RunsBack'. -/
def runsBackCard : Claim7 := { stood := { row := runsBackRow, standIns := [], harness := (true, "165dce22cb7fbf06dc9f9d1a3ced48c2771edb6b8bc891f578de994ac704de0e"), looks := true }, kinds := [], alts := [], laidByText := true, laidKinds := [.data, .data, .data, .data, .sentinel, .sentinel, .pinned], laidTests := true, laidLooks := .later }
def RunsBackCardSaid : Prop := Claim7.holds Tryd.pinned (.plain (OpenSpec.ofChange runsBackSpec)) runsBackCard

/-- THE SECOND FORM's CARD OF 'mosaiclaw25.RunsOf'. -/
def runsOfUptoCard : Claim7 := { stood := { row := runsOfUptoRow, standIns := [], harness := (true, "165dce22cb7fbf06dc9f9d1a3ced48c2771edb6b8bc891f578de994ac704de0e"), looks := true }, kinds := [], alts := [], laidByText := true, laidKinds := [.data, .data, .data], laidTests := true, laidLooks := .later }
def RunsOfUptoCardSaid : Prop := Claim7.holds Tryd.pinned (.plain (OpenSpec.upto runsOfSpec)) runsOfUptoCard

/-- THE SECOND FORM's CARD OF 'mosaiclaw25.RunsTile'. -/
def runsTileUptoCard : Claim7 := { stood := { row := runsTileUptoRow, standIns := [], harness := (true, "165dce22cb7fbf06dc9f9d1a3ced48c2771edb6b8bc891f578de994ac704de0e"), looks := true }, kinds := [], alts := [], laidByText := true, laidKinds := [.data, .data, .data], laidTests := true, laidLooks := .later }
def RunsTileUptoCardSaid : Prop := Claim7.holds Tryd.pinned (.plain (OpenSpec.upto runsTileSpec)) runsTileUptoCard

/-- THE SECOND FORM's CARD OF 'mosaiclaw25.RunsPacks'. -/
def runsPacksUptoCard : Claim7 := { stood := { row := runsPacksUptoRow, standIns := [], harness := (true, "165dce22cb7fbf06dc9f9d1a3ced48c2771edb6b8bc891f578de994ac704de0e"), looks := true }, kinds := [], alts := [], laidByText := true, laidKinds := [.data, .data, .data], laidTests := true, laidLooks := .later }
def RunsPacksUptoCardSaid : Prop := Claim7.holds Tryd.pinned (.plain (OpenSpec.upto runsPacksSpec)) runsPacksUptoCard

/-- THE SECOND FORM's CARD OF 'mosaiclaw25.RunsPatches'. -/
def runsPatchesUptoCard : Claim7 := { stood := { row := runsPatchesUptoRow, standIns := [], harness := (true, "165dce22cb7fbf06dc9f9d1a3ced48c2771edb6b8bc891f578de994ac704de0e"), looks := true }, kinds := [], alts := [], laidByText := true, laidKinds := [.data, .data, .data], laidTests := true, laidLooks := .later }
def RunsPatchesUptoCardSaid : Prop := Claim7.holds Tryd.pinned (.plain (OpenSpec.upto runsPatchesSpec)) runsPatchesUptoCard

/-- THE SECOND FORM's CARD OF 'mosaiclaw25.RunsTurns'. -/
def runsTurnsUptoCard : Claim7 := { stood := { row := runsTurnsUptoRow, standIns := [], harness := (true, "165dce22cb7fbf06dc9f9d1a3ced48c2771edb6b8bc891f578de994ac704de0e"), looks := true }, kinds := [], alts := [], laidByText := true, laidKinds := [.data, .data, .data], laidTests := true, laidLooks := .later }
def RunsTurnsUptoCardSaid : Prop := Claim7.holds Tryd.pinned (.plain (OpenSpec.upto runsTurnsSpec)) runsTurnsUptoCard

/-- THE SECOND FORM's CARD OF 'mosaiclaw25.RunsTexts'. -/
def runsTextsUptoCard : Claim7 := { stood := { row := runsTextsUptoRow, standIns := [], harness := (true, "165dce22cb7fbf06dc9f9d1a3ced48c2771edb6b8bc891f578de994ac704de0e"), looks := true }, kinds := [], alts := [], laidByText := true, laidKinds := [.data, .data, .data, .data, .sentinel, .sentinel, .pinned], laidTests := true, laidLooks := .later }
def RunsTextsUptoCardSaid : Prop := Claim7.holds Tryd.pinned (.plain (OpenSpec.upto runsTextsSpec)) runsTextsUptoCard

/-- THE SECOND FORM's CARD OF 'mosaiclaw25.RunsBack'. -/
def runsBackUptoCard : Claim7 := { stood := { row := runsBackUptoRow, standIns := [], harness := (true, "165dce22cb7fbf06dc9f9d1a3ced48c2771edb6b8bc891f578de994ac704de0e"), looks := true }, kinds := [], alts := [], laidByText := true, laidKinds := [.data, .data, .data, .data, .sentinel, .sentinel, .pinned], laidTests := true, laidLooks := .later }
def RunsBackUptoCardSaid : Prop := Claim7.holds Tryd.pinned (.plain (OpenSpec.upto runsBackSpec)) runsBackUptoCard
end Rows
end Go.Proofs.YtbbncdbihiipcaaDoor
