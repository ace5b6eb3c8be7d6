/- The contracts of the functions that were walked by hand, in the printed texts' form. -/
import Derived.Test.YtdccglkmkahblaaBx
import Derived.Test.YtdccglkmkahblaaEx
import Derived.Test.YtdccglkmkahblaaWWords
namespace Go.Proofs.Ytdccglkmkahblaa.Hand
open Go.RowKit Go.Proofs.YtdccglkmkahblaaW.PrintWords

def strings_IndexByte.f (a0 : ByteArray) (a1 : Int) : Option Int := some (Lib.indexByte a0.data.toList a1.toNat.toUInt8)
theorem strings_IndexByte.calls (a0 : ByteArray) (a1 : Int) (r : Int) (w : World) (h : strings_IndexByte.f a0 a1 = some r) :
    Calls Try.prog 14 #[.string a0, .int .u8 a1] w fun e w' => e = .returned (.int .i64 r) ∧ Drawn0 w w' := by
  obtain rfl := Option.some.inj h
  refine (Try.strings_IndexByte a0 a1 w).mono ?_
  rintro e w' ⟨rfl, rfl⟩
  exact ⟨rfl, Drawn0.refl _⟩

def link_plain.f (a0 : Int) : Option Bool := some (Ex.plainB a0)
theorem link_plain.calls (a0 : Int) (r : Bool) (w : World) (h : link_plain.f a0 = some r) :
    Calls Try.prog 21 #[.int .u8 a0] w fun e w' => e = .returned (.bool r) ∧ Drawn0 w w' := by
  obtain rfl := Option.some.inj h
  refine (Ex.plain a0 w).mono ?_
  rintro e w' ⟨rfl, rfl⟩
  exact ⟨rfl, Drawn0.refl _⟩

def link_Base32.f (a0 : ByteArray) : Option ByteArray := if a0.size ≤ 100000 then some (Bp.b32 a0) else none
theorem link_Base32.calls (a0 : ByteArray) (r : ByteArray) (w : World) (h : link_Base32.f a0 = some r) :
    Calls Try.prog 8 #[.string a0] w fun e w' => e = .returned (.string r) ∧ Below w.heap.size w w' := by
  unfold link_Base32.f at h
  split at h
  · obtain rfl := Option.some.inj h
    rename_i hs
    exact Bx.base32 a0 w hs
  · cases h

def link_Escape.f (a0 : ByteArray) : Option ByteArray := if a0.size ≤ 100000 then some (Ex.escB a0) else none
theorem link_Escape.calls (a0 : ByteArray) (r : ByteArray) (w : World) (h : link_Escape.f a0 = some r) :
    Calls Try.prog 12 #[.string a0] w fun e w' => e = .returned (.string r) ∧ Below w.heap.size w w' := by
  unfold link_Escape.f at h
  split at h
  · obtain rfl := Option.some.inj h
    rename_i hs
    exact Ex.escape a0 w hs
  · cases h

end Go.Proofs.Ytdccglkmkahblaa.Hand
