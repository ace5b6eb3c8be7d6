/- Shorter words for the printed walks: what stood in a world stands in the later one (drawn, allocated), found by instance. -/
import Derived.Test.YtmimnlbkllgfpaaGreatDoorWMore
namespace Go.Proofs.YtmimnlbkllgfpaaGreatDoor
namespace Sq
open Go.RowKit Go.Proofs.YtmimnlbkllgfpaaGreatDoorW.PrintWords
class Sub (w w1 : World) : Prop where ok : ∀ (g : Nat) (o : Obj), w.heap[g]? = some o → w1.heap[g]? = some o
instance (priority := 2000) subRefl (w : World) : Sub w w := ⟨fun _ _ h => h⟩
instance subDrew (w w1 : World) [k : Sub w w1] : Sub w w1.drew := ⟨fun g o h => blk_drew (k.ok g o h)⟩
instance subDrewN (w w1 : World) (n : Nat) [k : Sub w w1] : Sub w (w1.drewN n) := ⟨fun g o h => blk_drewN (k.ok g o h) n⟩
instance subAlloc (w w1 : World) (x : Obj) [k : Sub w w1] : Sub w (w1.alloc x) := ⟨fun g o h => blk_alloc (k.ok g o h) _⟩
theorem bS {w w1 : World} {g : Nat} {o : Obj} [k : Sub w w1] (h : Aside0 (w.heap[g]? = some o)) : w1.heap[g]? = some o := k.ok g o h.out
theorem bB {w w1 w2 : World} {g : Nat} {o : Obj} [k : Sub w w1] (h : Aside0 (w.heap[g]? = some o)) (hb : Below w1.heap.size w1 w2) : Aside0 (w2.heap[g]? = some o) := ⟨blk_below (k.ok g o h.out) hb⟩
theorem bNl {w w1 : World} {g g' : Nat} {o : Obj} [k : Sub w w1] (h : Aside0 (w.heap[g]? = some o)) (hg : g' = w1.heap.size) : Aside0 (g ≠ g') := ⟨by rw [hg]; exact Nat.ne_of_lt (blk_lt (k.ok g o h.out))⟩
theorem bNg {w w1 : World} {g g' : Nat} {o : Obj} [k : Sub w w1] (h : Aside0 (w.heap[g]? = some o)) (hg : g' = w1.heap.size) : Aside0 (g' ≠ g) := ⟨by rw [hg]; exact Nat.ne_of_gt (blk_lt (k.ok g o h.out))⟩
class SubW (W W1 : World) : Prop where ok : ∀ (w : World), Below w.heap.size w W → Below w.heap.size w W1
instance (priority := 2000) subwRefl (W : World) : SubW W W := ⟨fun _ h => h⟩
instance subwDrew (W W1 : World) [k : SubW W W1] : SubW W W1.drew := ⟨fun w h => below_drew1 (k.ok w h)⟩
instance subwDrewN (W W1 : World) (n : Nat) [k : SubW W W1] : SubW W (W1.drewN n) := ⟨fun w h => by apply pw_below_drewN; exact k.ok w h⟩
instance subwAlloc (W W1 : World) (x : Obj) [k : SubW W W1] : SubW W (W1.alloc x) := ⟨fun w h => by apply below_alloc; exact k.ok w h⟩
theorem hS {w W W1 w2 : World} [k : SubW W W1] (h : Aside0 (Below w.heap.size w W)) (hb : Below W1.heap.size W1 w2) : Aside0 (Below w.heap.size w w2) := ⟨below_step (k.ok w h.out) hb⟩
theorem hG {w W W1 : World} {g : Nat} [k : SubW W W1] (h : Aside0 (Below w.heap.size w W)) (hg : g = W1.heap.size) : Aside0 (w.heap.size ≤ g) := ⟨by rw [hg]; exact below_size (k.ok w h.out)⟩
/-- A row of truth values by its bits; short names. -/
def fB (n m : Nat) : Array Bool := ((List.range n).map m.testBit).toArray
theorem sA {α : Type} {l : List α} {i : Nat} {a : α} : l.toArray.setIfInBounds i a = (l.set i a).toArray := List.setIfInBounds_toArray ..
theorem sB {α : Type} {x y : α} {l : List α} : (x :: l).set 0 y = y :: l := rfl
theorem sC {α : Type} {x y : α} {l : List α} {i : Nat} : (x :: l).set (i + 1) y = x :: l.set i y := rfl
theorem sD (n : Int) : IntKind.u8.wrap n = n % 256 := IntKind.wrap_u8 n
end Sq
namespace Hand
end Hand
end Go.Proofs.YtmimnlbkllgfpaaGreatDoor
