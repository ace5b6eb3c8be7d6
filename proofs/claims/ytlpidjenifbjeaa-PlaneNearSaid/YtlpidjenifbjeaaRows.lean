/-
  No cell of these rows narrows 'for every input' (looked for: loops, veiled, ifaces, maps, wideKeys, modest, calm, conditions, laid).
  DERIVED. THE GIVEN ROWS OF THIS SEAT. 7 by the template 'for every input the law returns true; each argument reads behind the call as it read before'; 0 by the template 'total and deterministic' (their statements: YtlpidjenifbjeaaTotals.lean).
  GIVEN WITH THE SEED: the statements are not yours to turn. If you find one false, say at which input.
  Laid BY PROGRAM, IN A SANDBOX (cutbox-rows.mjs): the forced cells as the released guide's own fill.sh prints them over the translation 4d4e299b7e11f0d6… (all of the seat's roots in one cut). By AI agents, Wed Nov 11 2026. No macro, syntax, notation, axiom, sorry.
-/
import Derived.Test.YtlpidjenifbjeaaChecked
import GoSem.Claim
import GoSem.ClaimJoined
import GoSem.ClaimMapViews
import Derived.JoinedTies
import Derived.KernelRfl
namespace Go.Proofs.Ytlpidjenifbjeaa
/- THE CELL 'sum', in the pinned program and in every row, IS THE sha256 OF THE DUMP (.gsa) THAT YtlpidjenifbjeaaProg.lean LOADS. Nothing in Lean hashes anything: it is a label: what it is worth is what the hold of that sum in a sandbox is worth. -/
noncomputable def Try.pinned : Pinned := { name := "ytlpidjenifbjeaa", sum := "4d4e299b7e11f0d6d85a3bf8c7385e9d3954c483732073d7595601b9aa6fb33c", checked := Try.checked }
namespace Rows
def none {H : Type} : Left H := { results := [], args := [] }

/-- 'mosaiclaw17.PlaneTurns': WHATEVER THE INPUT: true; the input reads as it did. -/
def planeTurnsSpec : ChangeSpec := { name := "planeTurns", fn := fun _ => fun
  | [d1, d2] => { results := [.lit (.bool true)], args := [d1, d2] }
  | _ => none }
def planeTurnsRow : OpenClaim := { program := "ytlpidjenifbjeaa", sum := "4d4e299b7e11f0d6d85a3bf8c7385e9d3954c483732073d7595601b9aa6fb33c", func := "mosaic/mosaiclaw17.PlaneTurns", spec := "planeTurns", apart := false }
def PlaneTurnsSaid : Prop := planeTurnsRow.holds Try.pinned (OpenSpec.ofChange planeTurnsSpec)

/-- ITS FALSE NEIGHBOUR: 'it returns false'. Refute it at one input. -/
def planeTurnsWrong : ChangeSpec := { name := "planeTurns", fn := fun _ => fun
  | [d1, d2] => { results := [.lit (.bool false)], args := [d1, d2] }
  | _ => none }
def PlaneTurnsWrongFalsely : Prop := planeTurnsRow.holds Try.pinned (OpenSpec.ofChange planeTurnsWrong)

/-- 'mosaiclaw17.PlaneNorms': WHATEVER THE INPUT: true; the input reads as it did. -/
def planeNormsSpec : ChangeSpec := { name := "planeNorms", fn := fun _ => fun
  | [d1, d2, d3] => { results := [.lit (.bool true)], args := [d1, d2, d3] }
  | _ => none }
def planeNormsRow : OpenClaim := { program := "ytlpidjenifbjeaa", sum := "4d4e299b7e11f0d6d85a3bf8c7385e9d3954c483732073d7595601b9aa6fb33c", func := "mosaic/mosaiclaw17.PlaneNorms", spec := "planeNorms", apart := false }
def PlaneNormsSaid : Prop := planeNormsRow.holds Try.pinned (OpenSpec.ofChange planeNormsSpec)

/-- ITS FALSE NEIGHBOUR: 'it returns false'. Refute it at one input. -/
def planeNormsWrong : ChangeSpec := { name := "planeNorms", fn := fun _ => fun
  | [d1, d2, d3] => { results := [.lit (.bool false)], args := [d1, d2, d3] }
  | _ => none }
def PlaneNormsWrongFalsely : Prop := planeNormsRow.holds Try.pinned (OpenSpec.ofChange planeNormsWrong)

/-- 'mosaiclaw17.PlaneSpirals': WHATEVER THE INPUT: true; the input reads as it did. -/
def planeSpiralsSpec : ChangeSpec := { name := "planeSpirals", fn := fun _ => fun
  | [d1, d2] => { results := [.lit (.bool true)], args := [d1, d2] }
  | _ => none }
def planeSpiralsRow : OpenClaim := { program := "ytlpidjenifbjeaa", sum := "4d4e299b7e11f0d6d85a3bf8c7385e9d3954c483732073d7595601b9aa6fb33c", func := "mosaic/mosaiclaw17.PlaneSpirals", spec := "planeSpirals", apart := false }
def PlaneSpiralsSaid : Prop := planeSpiralsRow.holds Try.pinned (OpenSpec.ofChange planeSpiralsSpec)

/-- ITS FALSE NEIGHBOUR: 'it returns false'. Refute it at one input. -/
def planeSpiralsWrong : ChangeSpec := { name := "planeSpirals", fn := fun _ => fun
  | [d1, d2] => { results := [.lit (.bool false)], args := [d1, d2] }
  | _ => none }
def PlaneSpiralsWrongFalsely : Prop := planeSpiralsRow.holds Try.pinned (OpenSpec.ofChange planeSpiralsWrong)

/-- 'mosaiclaw17.PlaneDivides': WHATEVER THE INPUT: true; the input reads as it did. -/
def planeDividesSpec : ChangeSpec := { name := "planeDivides", fn := fun _ => fun
  | [d1, d2] => { results := [.lit (.bool true)], args := [d1, d2] }
  | _ => none }
def planeDividesRow : OpenClaim := { program := "ytlpidjenifbjeaa", sum := "4d4e299b7e11f0d6d85a3bf8c7385e9d3954c483732073d7595601b9aa6fb33c", func := "mosaic/mosaiclaw17.PlaneDivides", spec := "planeDivides", apart := false }
def PlaneDividesSaid : Prop := planeDividesRow.holds Try.pinned (OpenSpec.ofChange planeDividesSpec)

/-- ITS FALSE NEIGHBOUR: 'it returns false'. Refute it at one input. -/
def planeDividesWrong : ChangeSpec := { name := "planeDivides", fn := fun _ => fun
  | [d1, d2] => { results := [.lit (.bool false)], args := [d1, d2] }
  | _ => none }
def PlaneDividesWrongFalsely : Prop := planeDividesRow.holds Try.pinned (OpenSpec.ofChange planeDividesWrong)

/-- 'mosaiclaw17.PlaneReckons': WHATEVER THE INPUT: true; the input reads as it did. -/
def planeReckonsSpec : ChangeSpec := { name := "planeReckons", fn := fun _ => fun
  | [d1, d2] => { results := [.lit (.bool true)], args := [d1, d2] }
  | _ => none }
def planeReckonsRow : OpenClaim := { program := "ytlpidjenifbjeaa", sum := "4d4e299b7e11f0d6d85a3bf8c7385e9d3954c483732073d7595601b9aa6fb33c", func := "mosaic/mosaiclaw17.PlaneReckons", spec := "planeReckons", apart := false }
def PlaneReckonsSaid : Prop := planeReckonsRow.holds Try.pinned (OpenSpec.ofChange planeReckonsSpec)

/-- ITS FALSE NEIGHBOUR: 'it returns false'. Refute it at one input. -/
def planeReckonsWrong : ChangeSpec := { name := "planeReckons", fn := fun _ => fun
  | [d1, d2] => { results := [.lit (.bool false)], args := [d1, d2] }
  | _ => none }
def PlaneReckonsWrongFalsely : Prop := planeReckonsRow.holds Try.pinned (OpenSpec.ofChange planeReckonsWrong)

/-- 'mosaiclaw17.PlaneSpiralsBack': WHATEVER THE INPUT: true; the input reads as it did. -/
def planeSpiralsBackSpec : ChangeSpec := { name := "planeSpiralsBack", fn := fun _ => fun
  | [d] => { results := [.lit (.bool true)], args := [d] }
  | _ => none }
def planeSpiralsBackRow : OpenClaim := { program := "ytlpidjenifbjeaa", sum := "4d4e299b7e11f0d6d85a3bf8c7385e9d3954c483732073d7595601b9aa6fb33c", func := "mosaic/mosaiclaw17.PlaneSpiralsBack", spec := "planeSpiralsBack", apart := false }
def PlaneSpiralsBackSaid : Prop := planeSpiralsBackRow.holds Try.pinned (OpenSpec.ofChange planeSpiralsBackSpec)

/-- ITS FALSE NEIGHBOUR: 'it returns false'. Refute it at one input. -/
def planeSpiralsBackWrong : ChangeSpec := { name := "planeSpiralsBack", fn := fun _ => fun
  | [d] => { results := [.lit (.bool false)], args := [d] }
  | _ => none }
def PlaneSpiralsBackWrongFalsely : Prop := planeSpiralsBackRow.holds Try.pinned (OpenSpec.ofChange planeSpiralsBackWrong)

/-- 'mosaiclaw17.PlaneNear': WHATEVER THE INPUT: true; the input reads as it did. -/
def planeNearSpec : ChangeSpec := { name := "planeNear", fn := fun _ => fun
  | [d1, d2] => { results := [.lit (.bool true)], args := [d1, d2] }
  | _ => none }
def planeNearRow : OpenClaim := { program := "ytlpidjenifbjeaa", sum := "4d4e299b7e11f0d6d85a3bf8c7385e9d3954c483732073d7595601b9aa6fb33c", func := "mosaic/mosaiclaw17.PlaneNear", spec := "planeNear", unfollowed := true, recurses := true, apart := false }
def PlaneNearSaid : Prop := planeNearRow.holds Try.pinned (OpenSpec.ofChange planeNearSpec)

/-- ITS FALSE NEIGHBOUR: 'it returns false'. Refute it at one input. -/
def planeNearWrong : ChangeSpec := { name := "planeNear", fn := fun _ => fun
  | [d1, d2] => { results := [.lit (.bool false)], args := [d1, d2] }
  | _ => none }
def PlaneNearWrongFalsely : Prop := planeNearRow.holds Try.pinned (OpenSpec.ofChange planeNearWrong)

/- THE SECOND FORM. 'bulk': how many values and letters a reading holds, each counted each time it is reached (what is shared counts as often as it is met; a slice's spare places count too). A statement '..UptoSaid' is the law's where the arguments, and the package variables that the reading takes, are together of bulk at most 1048576: NARROWER than '..Said'. Prove '..Said' where nothing that the law and all that it calls make is longer than what came in: it says more and counts as full. Else prove '..UptoSaid'. A law counts once. -/
mutual
def uptoBulk {H : Type} : DataW H → Nat
  | .lit (.string bytes) => bytes.length + 1
  | .lit _ => 1
  | .nil => 1
  | .ptr d => uptoBulk d + 1
  | .slice elems spare => uptoBulkAll elems + uptoBulkAll spare + 1
  | .agg parts => uptoBulkAll parts + 1
  | .iface _ d => uptoBulk d + 1
  | .map entries => uptoBulkEntries entries + 1
  | .held _ => 1
def uptoBulkAll {H : Type} : List (DataW H) → Nat
  | [] => 0
  | d :: r => uptoBulk d + uptoBulkAll r
def uptoBulkEntries {H : Type} : List (Lit × DataW H) → Nat
  | [] => 0
  | x :: r => uptoBulkEntry x + uptoBulkEntries r
def uptoBulkEntry {H : Type} : Lit × DataW H → Nat
  | (.string bytes, d) => bytes.length + uptoBulk d + 1
  | (_, d) => uptoBulk d + 1
 end
def uptoSmall : (H : Type) → List (DataW H) → Bool := fun _ ds => decide (uptoBulkAll ds ≤ 1048576)
def OpenSpec.upto (s : _root_.Go.ChangeSpec) : _root_.Go.OpenSpec := { _root_.Go.OpenSpec.ofChange s with cond := some uptoSmall }

/-- 'mosaiclaw17.PlaneTurns', WHERE WHAT IT READS IS OF BULK AT MOST 1048576: true; the input reads as it did. -/
def planeTurnsUptoRow : OpenClaim := { program := "ytlpidjenifbjeaa", sum := "4d4e299b7e11f0d6d85a3bf8c7385e9d3954c483732073d7595601b9aa6fb33c", func := "mosaic/mosaiclaw17.PlaneTurns", spec := "planeTurns", apart := false, narrowed := true }
def PlaneTurnsUptoSaid : Prop := planeTurnsUptoRow.holds Try.pinned (OpenSpec.upto planeTurnsSpec)

/-- 'mosaiclaw17.PlaneNorms', WHERE WHAT IT READS IS OF BULK AT MOST 1048576: true; the input reads as it did. -/
def planeNormsUptoRow : OpenClaim := { program := "ytlpidjenifbjeaa", sum := "4d4e299b7e11f0d6d85a3bf8c7385e9d3954c483732073d7595601b9aa6fb33c", func := "mosaic/mosaiclaw17.PlaneNorms", spec := "planeNorms", apart := false, narrowed := true }
def PlaneNormsUptoSaid : Prop := planeNormsUptoRow.holds Try.pinned (OpenSpec.upto planeNormsSpec)

/-- 'mosaiclaw17.PlaneSpirals', WHERE WHAT IT READS IS OF BULK AT MOST 1048576: true; the input reads as it did. -/
def planeSpiralsUptoRow : OpenClaim := { program := "ytlpidjenifbjeaa", sum := "4d4e299b7e11f0d6d85a3bf8c7385e9d3954c483732073d7595601b9aa6fb33c", func := "mosaic/mosaiclaw17.PlaneSpirals", spec := "planeSpirals", apart := false, narrowed := true }
def PlaneSpiralsUptoSaid : Prop := planeSpiralsUptoRow.holds Try.pinned (OpenSpec.upto planeSpiralsSpec)

/-- 'mosaiclaw17.PlaneDivides', WHERE WHAT IT READS IS OF BULK AT MOST 1048576: true; the input reads as it did. -/
def planeDividesUptoRow : OpenClaim := { program := "ytlpidjenifbjeaa", sum := "4d4e299b7e11f0d6d85a3bf8c7385e9d3954c483732073d7595601b9aa6fb33c", func := "mosaic/mosaiclaw17.PlaneDivides", spec := "planeDivides", apart := false, narrowed := true }
def PlaneDividesUptoSaid : Prop := planeDividesUptoRow.holds Try.pinned (OpenSpec.upto planeDividesSpec)

/-- 'mosaiclaw17.PlaneReckons', WHERE WHAT IT READS IS OF BULK AT MOST 1048576: true; the input reads as it did. -/
def planeReckonsUptoRow : OpenClaim := { program := "ytlpidjenifbjeaa", sum := "4d4e299b7e11f0d6d85a3bf8c7385e9d3954c483732073d7595601b9aa6fb33c", func := "mosaic/mosaiclaw17.PlaneReckons", spec := "planeReckons", apart := false, narrowed := true }
def PlaneReckonsUptoSaid : Prop := planeReckonsUptoRow.holds Try.pinned (OpenSpec.upto planeReckonsSpec)

/-- 'mosaiclaw17.PlaneSpiralsBack', WHERE WHAT IT READS IS OF BULK AT MOST 1048576: true; the input reads as it did. -/
def planeSpiralsBackUptoRow : OpenClaim := { program := "ytlpidjenifbjeaa", sum := "4d4e299b7e11f0d6d85a3bf8c7385e9d3954c483732073d7595601b9aa6fb33c", func := "mosaic/mosaiclaw17.PlaneSpiralsBack", spec := "planeSpiralsBack", apart := false, narrowed := true }
def PlaneSpiralsBackUptoSaid : Prop := planeSpiralsBackUptoRow.holds Try.pinned (OpenSpec.upto planeSpiralsBackSpec)

/-- 'mosaiclaw17.PlaneNear', WHERE WHAT IT READS IS OF BULK AT MOST 1048576: true; the input reads as it did. -/
def planeNearUptoRow : OpenClaim := { program := "ytlpidjenifbjeaa", sum := "4d4e299b7e11f0d6d85a3bf8c7385e9d3954c483732073d7595601b9aa6fb33c", func := "mosaic/mosaiclaw17.PlaneNear", spec := "planeNear", unfollowed := true, recurses := true, apart := false, narrowed := true }
def PlaneNearUptoSaid : Prop := planeNearUptoRow.holds Try.pinned (OpenSpec.upto planeNearSpec)

end Rows
end Go.Proofs.Ytlpidjenifbjeaa
