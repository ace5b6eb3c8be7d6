/- The contracts of the functions that were walked by hand, in the printed texts' form. -/
import Derived.Test.YtdccglkmkahblaaDoorBx
import Derived.Test.YtdccglkmkahblaaDoorEx
import Derived.Test.YtdccglkmkahblaaDoorWWords
import Derived.Lib.ItoaNum
import Derived.Lib.Join
import Derived.Lib.AppendIntMem
namespace Go.Proofs.YtdccglkmkahblaaDoor.Hand
open Go.RowKit Go.Proofs.YtdccglkmkahblaaDoorW.PrintWords

def strings_IndexByte.f (a0 : ByteArray) (a1 : Int) : Option Int := some (Lib.indexByte a0.data.toList a1.toNat.toUInt8)
theorem strings_IndexByte.calls (a0 : ByteArray) (a1 : Int) (r : Int) (w : World) (h : strings_IndexByte.f a0 a1 = some r) :
    Calls Tryd.prog 48 #[.string a0, .int .u8 a1] w fun e w' => e = .returned (.int .i64 r) ∧ Drawn0 w w' := by
  obtain rfl := Option.some.inj h
  refine (Tryd.strings_IndexByte a0 a1 w).mono ?_
  rintro e w' ⟨rfl, rfl⟩
  exact ⟨rfl, Drawn0.refl _⟩

def link_plain.f (a0 : Int) : Option Bool := some (Ex.plainB a0)
theorem link_plain.calls (a0 : Int) (r : Bool) (w : World) (h : link_plain.f a0 = some r) :
    Calls Tryd.prog 24 #[.int .u8 a0] w fun e w' => e = .returned (.bool r) ∧ Drawn0 w w' := by
  obtain rfl := Option.some.inj h
  refine (Ex.plain a0 w).mono ?_
  rintro e w' ⟨rfl, rfl⟩
  exact ⟨rfl, Drawn0.refl _⟩

def link_Base32.f (a0 : ByteArray) : Option ByteArray := if a0.size ≤ 100000 then some (Bp.b32 a0) else none
theorem link_Base32.calls (a0 : ByteArray) (r : ByteArray) (w : World) (h : link_Base32.f a0 = some r) :
    Calls Tryd.prog 10 #[.string a0] w fun e w' => e = .returned (.string r) ∧ Below w.heap.size w w' := by
  unfold link_Base32.f at h
  split at h
  · obtain rfl := Option.some.inj h
    rename_i hs
    exact Bx.base32 a0 w hs
  · cases h

def link_Escape.f (a0 : ByteArray) : Option ByteArray := if a0.size ≤ 100000 then some (Ex.escB a0) else none
theorem link_Escape.calls (a0 : ByteArray) (r : ByteArray) (w : World) (h : link_Escape.f a0 = some r) :
    Calls Tryd.prog 9 #[.string a0] w fun e w' => e = .returned (.string r) ∧ Below w.heap.size w w' := by
  unfold link_Escape.f at h
  split at h
  · obtain rfl := Option.some.inj h
    rename_i hs
    exact Ex.escape a0 w hs
  · cases h

/-- The library's table of the powers of ten is there. -/
def TabW (w : World) : Prop := Lib.TabIs Tryd.prog w "internal/strconv.uint64pow10" .u64 Lib.pow10Tab
theorem TabW.below {w w' : World} (h : TabW w) (hb : Below w.heap.size w w') : TabW w' := Lib.tabBelow_of_tabIs h w' hb

def strconv_Itoa_28.f (a0 : Int) : Option ByteArray := if -9223372036854775808 ≤ a0 ∧ a0 ≤ 9223372036854775807 then some ⟨(Lib.itoa a0).toArray⟩ else none
theorem strconv_Itoa_28.calls (a0 : Int) (r : ByteArray) (w : World) (h : strconv_Itoa_28.f a0 = some r) (hTab : TabW w) :
    Calls Tryd.prog 28 #[.int .i64 a0] w fun e w' => e = .returned (.string r) ∧ Below w.heap.size w w' := by
  unfold strconv_Itoa_28.f at h
  split at h
  · rename_i hn
    obtain rfl := Option.some.inj h
    refine (Tryd.strconv_Itoa a0 hn.1 hn.2 w hTab).mono ?_
    rintro e w' ⟨rfl, k, os, rfl⟩
    exact ⟨rfl, Lib.below_grow w.heap.size w (Nat.le_refl _) k os⟩
  · cases h

def strings_Join.f (l0 : List ByteArray) (a1 : ByteArray) : Option ByteArray :=
  if 0 < l0.length ∧ l0.length ≤ 140737488355328 ∧ (Lib.join (l0.map (·.data.toList)) a1.data.toList).length ≤ 140737488355328 then some ⟨(Lib.join (l0.map (·.data.toList)) a1.data.toList).toArray⟩ else none
theorem strings_Join.calls (A0 : Option Addr) (c0 : Nat) (l0 : List ByteArray) (a1 : ByteArray) (r : ByteArray) (w : World) (hr0 : Kd.C Kd.string w A0 l0.length l0) (hc0 : l0.length ≤ c0) (h : strings_Join.f l0 a1 = some r) :
    Calls Tryd.prog 29 #[.slice A0 l0.length c0, .string a1] w fun e w' => e = .returned (.string r) ∧ Below w.heap.size w w' := by
  unfold strings_Join.f at h
  split at h
  · rename_i hn
    obtain rfl := Option.some.inj h
    obtain ⟨⟨b, o, sp⟩, rfl, hx⟩ := hr0.2.2 hn.1
    have key : ∀ (j : Nat) x, l0[j]? = some x → w.cell? ((⟨b, o, sp⟩ : Addr).add j) = some (.string x) := by
      intro j x hj
      obtain ⟨c, hc, hK, hu⟩ := hx j x hj
      have hc1 : c = [.string x] := hK
      subst hc1
      have := hu 0 _ rfl
      rwa [show j * (Kd.string).sz + 0 = j from by show j * 1 + 0 = j; omega] at this
    obtain ⟨x0, h0⟩ : ∃ x, l0[0]? = some x := ⟨l0[0], List.getElem?_eq_getElem hn.1⟩
    have hc0' := key 0 x0 h0
    have hb : b < w.heap.size := World.block_lt_of_cell? w _ hc0'
    cases sp with
    | some z =>
      exfalso
      unfold World.cell? at hc0'
      split at hc0'
      · simp [Addr.add] at hc0'
      · cases hc0'
    | none => exact Tryd.strings_Join b o c0 l0 a1 w (fun j x hj => by have := key j x hj; unfold Addr.add at this; split at this <;> simp_all) hb hn.2.1 hc0 hn.2.2
  · cases h

end Go.Proofs.YtdccglkmkahblaaDoor.Hand
