/- A link in the making; its nodes. -/
import Derived.Test.YtmimnlbkllgfpaaGreatDoorNp
namespace Go.Proofs.YtmimnlbkllgfpaaGreatDoor.Hand
open Go.RowKit Go.Proofs.YtmimnlbkllgfpaaGreatDoor.A Go.Proofs.YtmimnlbkllgfpaaGreatDoorW.PrintWords
/-- A link in the making, in a box of its own. -/
structure LkAt (B g : Nat) (w : World) (nm ti : ByteArray) (v2 v3 : Value) (ns : List Int) (ps : List S24) : Prop where
  blk : w.heap[g]? = some (.cells #[.string nm, .string ti, v2, v3] 70 (0, 0))
  nodes : Kd.R (Kd.int .i64) 3 w B (fun _ => True) v2 ns
  places : Kd.R k24 24 w B (fun _ => True) v3 ps
  low : B ≤ g
theorem LkAt.below {B g : Nat} {w w' : World} {nm ti : ByteArray} {v2 v3 : Value} {ns : List Int} {ps : List S24} (h : LkAt B g w nm ti v2 v3 ns ps) (hb : Below w.heap.size w w') : LkAt B g w' nm ti v2 v3 ns ps :=
  ⟨blk_below h.blk hb, Kd.R_below h.nodes hb, Kd.R_below h.places hb, h.low⟩
end Go.Proofs.YtmimnlbkllgfpaaGreatDoor.Hand
namespace Go.Proofs.YtmimnlbkllgfpaaGreatDoor.Tb
open Go.RowKit Go.Proofs.YtmimnlbkllgfpaaGreatDoor.A
/-- A link's nodes: of those that count, those that are found. -/
def linkN (ns : List Nt) (near : List Int) : List Nt := ns.filter (fun x => decide (x.f1 ∈ near))
end Go.Proofs.YtmimnlbkllgfpaaGreatDoor.Tb
