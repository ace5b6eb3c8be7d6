/- oct.Get: the number that bytes are: at most seven. -/
import Derived.Test.YtbbncdbihiipcaaDoorProg
import Derived.Test.YtbbncdbihiipcaaDoorGt
import Derived.Tactics2
import Derived.StillTactics
import Derived.Laws.Shifts
import Derived.Laws.Bits64b
import Derived.Laws.Strings
import Derived.Laws.Strings2
import Derived.Laws.Strings3
import Derived.RegionTactic
import Derived.RowKit
import Derived.Below
import Derived.Lib.Strings
import Derived.BigRegion
import Derived.KernelRfl
namespace Go.Proofs.YtbbncdbihiipcaaDoor.Ge
open Go.RowKit

def getN (n : Nat) (l : List UInt8) : Nat := l.foldl (fun n b => n * 256 + b.toNat) n
def J (v : Nat) (w0 : World) (m : Nat) (a : Act) (w : World) : Prop :=
  ∃ (s : ByteArray) (n : Nat), (∃ u4 u5 u6 u7 u8 u9 u10 u11 u12 u13 u14 u15 u16 u17  : Value, a = { tmps := #[.string s, undef, .int .i64 0, .int .i64 n, u4, u5, u6, u7, u8, u9, u10, u11, u12, u13, u14, u15, u16, u17], defers := [] }) ∧ s.size = m ∧ m ≤ 7 ∧ n < 256 ^ (7 - m) ∧ getN n s.data.toList = v ∧ Below w0.heap.size w0 w

theorem or64 (a b : Nat) (ha : a < 9223372036854775808) (hb : b < 9223372036854775808) : bits .or .i64 (a : Int) (b : Int) = ((a ||| b : Nat) : Int) := by
  have hx : a ||| b < 2 ^ 63 := Nat.or_lt_two_pow (by omega) (by omega)
  have h1 : (BitVec.ofInt 64 (a : Int)).toNat = a := by
    rw [BitVec.ofInt_natCast, BitVec.toNat_ofNat]; exact Nat.mod_eq_of_lt (by omega)
  have h2 : (BitVec.ofInt 64 (b : Int)).toNat = b := by
    rw [BitVec.ofInt_natCast, BitVec.toNat_ofNat]; exact Nat.mod_eq_of_lt (by omega)
  show IntKind.i64.wrap ((BitVec.ofInt 64 (a : Int) ||| BitVec.ofInt 64 (b : Int)).toNat : Int) = _
  rw [BitVec.toNat_or, h1, h2, IntKind.wrap_i64]
  omega
theorem orB (n : Nat) (b : UInt8) (hn : n < 36028797018963968) : bits .or .i64 (wrap64 ((n : Int) * 256)) (wrap64 (b.toNat : Int)) = ((n * 256 + b.toNat : Nat) : Int) := by
  have hb := b.toNat_lt
  have h1 : wrap64 ((n : Int) * 256) = ((n * 256 : Nat) : Int) := by unfold wrap64; omega
  have h2 : wrap64 (b.toNat : Int) = (b.toNat : Int) := by unfold wrap64; omega
  rw [h1, h2, or64 _ _ (by omega) (by omega)]
  have := Nat.two_pow_add_eq_or_of_lt (i := 8) (b := b.toNat) (by omega) n
  rw [show (2 : Nat) ^ 8 = 256 from rfl] at this
  rw [Nat.mul_comm n, this]

set_option maxHeartbeats 2000000 in
set_option maxRecDepth 1000000 in
theorem get (s : ByteArray) (w : World) :
    Calls Tryd.prog 70 #[.string s] w fun e w' => e = .returned (.int .i64 (if s.size ≤ 7 then (getN 0 s.data.toList : Int) else 0)) ∧ Below w.heap.size w w' := by
  by_cases hs : s.size ≤ 7
  · rw [if_pos hs]
    go_enter Tryd.func70, Tryd.ntmps70
    go_wp2
    refine Gt.wp_scope_jumps2 0 (J (getN 0 s.data.toList) w) rfl ?_ ?_
    · rintro nn a' w' ⟨t, n, ⟨u4, u5, u6, u7, u8, u9, u10, u11, u12, u13, u14, u15, u16, u17, rfl⟩, ht, h7, hn, hv, hB⟩
      subst ht
      have hlist : t.toList = t.data.toList := ByteArray.toList_eq t
      have hlen : t.data.toList.length = t.size := Array.length_toList
      by_cases hz : t.size = 0
      · have hnil : t.data.toList = [] := List.length_eq_zero_iff.mp (by omega)
        have hemp : t.toList.isEmpty = true := by rw [hlist, hnil]; rfl
        rw [hnil] at hv
        have hv' : n = getN 0 s.data.toList := hv
        clear hlist hlen hnil hv
        go_wp2_with fail
        simp only [Exit.jump]
        go_ret
        first | exact ⟨rfl, hB⟩ | exact ⟨by rw [hv']; rfl, hB⟩
      · have hpos : 0 < t.size := by omega
        have hemp : t.toList.isEmpty = false := by
          rw [hlist]
          cases hl : t.data.toList with
          | nil => rw [hl] at hlen; simp at hlen; omega
          | cons a l => rfl
        have hn2 : n < 36028797018963968 := by
          have h1 : (256 : Nat) ^ (7 - t.size) ≤ 256 ^ 6 := Nat.pow_le_pow_right (by omega) (by omega)
          omega
        have e5 := orB n t[0] hn2
        have hsl : ∀ W : World, Sem.run Tryd.prog (Instr.slice 9 (.string t) (some (.int .i64 1)) none none) W = .ok (.string (t.extract 1 t.size)) W := fun W => by
          rw [run_slice_string_from_if _ _ _ _ _ Tryd.underlying9, if_pos (by omega)]; rfl
        obtain ⟨c, l, hl⟩ : ∃ c l, t.data.toList = c :: l := by
          cases hl : t.data.toList with
          | nil => rw [hl] at hlen; simp at hlen; omega
          | cons a l => exact ⟨a, l, rfl⟩
        have hc : t[0] = c := by
          have h1 : t.data.toList[0]? = some t[0] := by rw [List.getElem?_eq_getElem (by simpa using hpos)]; rfl
          rw [hl] at h1; simpa using h1.symm
        have hl1 : (t.extract 1 t.size).data.toList = l := by
          rw [Lib.extract_data, hl]; simp only [List.drop_succ_cons, List.drop_zero]
          exact List.take_of_length_le (by rw [hl] at hlen; simp at hlen; omega)
        have hs1 : (t.extract 1 t.size).size = t.size - 1 := by simp
        rw [hl] at hv
        have hv1 : getN (n * 256 + c.toNat) l = getN 0 s.data.toList := hv
        rw [← hl1, ← hc] at hv1
        have hn3 : n * 256 + t[0].toNat < 256 ^ (7 - (t.size - 1)) := by
          have h1 := t[0].toNat_lt
          have h2 : 7 - (t.size - 1) = (7 - t.size) + 1 := by omega
          rw [h2, Nat.pow_succ]; omega
        have hsl2 : ∀ W : World, Sem.run Tryd.prog (Instr.sliceAt 9 (.string t) (some (.int .i64 1)) none none) W = .ok (.string (t.extract 1 t.size)) W := hsl
        have hB2 : Below w.heap.size w w'.drew := hB.drew
        clear hlist hlen hl hl1 hc hv hB
        go_wp2_with fail
        go_region
        go_wp2_with fail
        go_step3
        have e6 : wrap64 ((n : Int) * 256) = (n : Int) * 256 := by unfold wrap64; omega
        rw [e6] at e5
        rw [e5]
        exact ⟨rfl, t.size - 1, by omega, t.extract 1 t.size, _, ⟨_, _, _, _, _, _, _, _, _, _, _, _, _, _, rfl⟩, hs1, by omega, hn3, hv1, hB2⟩
    · intro hp
      go_wp2
      go_step3
      rename_i hk
      refine hk _ _ (hp s.size _ _ ?_)
      exact ⟨s, 0, ⟨_, _, _, _, _, _, _, _, _, _, _, _, _, _, rfl⟩, rfl, hs, Nat.pos_of_ne_zero (by simp), rfl, Below.refl _ w⟩
  · rw [if_neg hs]
    go_enter Tryd.func70, Tryd.ntmps70
    go_wp2
    go_step3
    go_wp2
    rw [Exit.noGoto_ret]
    go_ret
    exact ⟨rfl, Below.refl _ _⟩
end Go.Proofs.YtbbncdbihiipcaaDoor.Ge
