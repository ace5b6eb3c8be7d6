import Derived.Test.YtdccglkmkahblaaDoorBd
import Derived.Test.YtdccglkmkahblaaDoorSh
import Derived.Test.YtdccglkmkahblaaDoorBp
import Derived.Tactics
import Derived.Tactics2
import Derived.StillTactics
import Derived.Laws.Shifts
import Derived.Laws.ShiftsVar
import Derived.Laws.Bits
import Derived.Laws.Bits64
import Derived.Laws.BitsAll
import Derived.Laws.Strings
import Derived.Scope
import Derived.RegionTactic
import Derived.LoopTactic
import Derived.WalkMore
import Derived.ScopeJumps
namespace Go.Proofs.YtdccglkmkahblaaDoor.Bx
open Go.RowKit Go.Proofs.YtdccglkmkahblaaDoor.Bp

theorem exists_min (p : Nat → Prop) (h : ∃ n, p n) : ∃ n, p n ∧ ∀ m, p m → n ≤ m := by
  obtain ⟨n, hn⟩ := h
  induction n using Nat.strongRecOn with
  | _ n ih =>
    by_cases hm : ∃ m, m < n ∧ p m
    · obtain ⟨m, h1, h2⟩ := hm; exact ih m h1 h2
    · exact ⟨n, hn, fun m h => by
        rcases Nat.lt_or_ge m n with h' | h'
        · exact absurd ⟨m, h', h⟩ hm
        · exact h'⟩

open Classical in
theorem wp_scope_jumps2 {P : Program} {a : Act} {w : World} {Q : Exit → Act → World → Prop} {c rest : Code} (l : Nat) (J : Nat → Act → World → Prop) (hf : findLabel c l = some (.seq .skip rest))
    (pass : ∀ n a w, J n a w → rest.wp P (Exit.jump l (fun a' w' => ∃ m, m < n ∧ J m a' w') Q) a w)
    (first : (∀ n a w, J n a w → rest.wp P (Exit.jump l (fun a' w' => ∃ m, J m a' w') Q) a w) → c.wp P (Exit.jump l (fun a' w' => ∃ m, J m a' w') Q) a w) : (Code.scope c).wp P Q a w := by
  refine wp_scope_jumps l (fun a w => ∃ n, J n a w) (fun a w => if h : ∃ n, J n a w then Classical.choose (exists_min _ h) else 0) hf (first fun n a w h => Code.wp_mono ?_ (pass n a w h)) ?_
  · intro e a' w' h
    cases e <;> first | exact h | exact ⟨h.1, h.2.elim fun m hm => ⟨m, hm.2⟩⟩
  · intro a w h
    obtain ⟨h1, h2⟩ := Classical.choose_spec (exists_min _ h)
    apply wp_seq_k
    intro K hK
    apply wp_skip
    refine hK _ _ (Code.wp_mono ?_ (pass _ a w h1))
    intro e a' w' hq
    cases e <;> try exact hq
    obtain ⟨rfl, m, hm, hJ⟩ := hq
    refine ⟨rfl, ⟨m, hJ⟩, ?_⟩
    have he : ∃ n, J n a' w' := ⟨m, hJ⟩
    rw [dif_pos he, dif_pos h]
    exact Nat.lt_of_le_of_lt ((Classical.choose_spec (exists_min _ he)).2 m hJ) hm

def St (s : ByteArray) (B b : Nat) (bits hv i : Nat) (l : List UInt8) (a : Act) (w : World) : Prop :=
  ∃ u7 u8 u9 u10 u11 u12 u13 u14 u15 u16 u17 u18 u19 u20 u21 u22 u23 u24 u25 u26 u27 u28 u29 u30 u31 u32 u33 u34 u35 u36 u37 u38 u39 u40 u41 u42 u43 u44 u45 u46 : Value, a = { tmps := #[.string s, undef, .string ⟨#[]⟩, .pointer (some ⟨b, 0, none⟩), .int .i64 bits, .int .i64 hv, .int .i64 i, u7, u8, u9, u10, u11, u12, u13, u14, u15, u16, u17, u18, u19, u20, u21, u22, u23, u24, u25, u26, u27, u28, u29, u30, u31, u32, u33, u34, u35, u36, u37, u38, u39, u40, u41, u42, u43, u44, u45, u46], defers := [] } ∧ Lib.IsBuilder 59 5 B b (Lib.byteCells l) w

def J (s : ByteArray) (w0 : World) (n : Nat) (a : Act) (w : World) : Prop :=
  ∃ c hv i, St s w0.heap.size w0.heap.size (bv s.data.toList (5 * c) hv) hv i (encN s.data.toList c) a w ∧ Below w0.heap.size w0 w ∧ 5 * c + hv = 8 * i ∧ hv ≤ 12 ∧ i ≤ s.size ∧ n = 16 * (s.size - i) + hv

theorem letIdx (k : Nat) (h : k < 32) : (⟨#[97, 98, 99, 100, 101, 102, 103, 104, 105, 106, 107, 108, 109, 110, 111, 112, 113, 114, 115, 116, 117, 118, 119, 120, 121, 122, 50, 51, 52, 53, 54, 55]⟩ : ByteArray)[k]'h = letB k := by
  have : ∀ k : Fin 32, (⟨#[97, 98, 99, 100, 101, 102, 103, 104, 105, 106, 107, 108, 109, 110, 111, 112, 113, 114, 115, 116, 117, 118, 119, 120, 121, 122, 50, 51, 52, 53, 54, 55]⟩ : ByteArray)[k.1]'k.2 = letB k.1 := by decide
  exact this ⟨k, h⟩
theorem maskE (s : List UInt8) (c hv : Nat) (h5 : 5 ≤ hv) (h12 : hv ≤ 12) : bits .and .i64 ((bv s (5 * c) hv : Nat) : Int) (wrap64 (wrap64 (2 ^ (hv - 5)) - 1)) = ((bv s (5 * (c + 1)) (hv - 5) : Nat) : Int) := by
  have p1 : (2 : Int) ^ (hv - 5) = ((2 ^ (hv - 5) : Nat) : Int) := by simp
  have p2 : 2 ^ (hv - 5) ≤ 2 ^ 7 := Nat.pow_le_pow_right (by omega) (by omega)
  have p3 := Nat.two_pow_pos (hv - 5)
  have p4 := bv_lt s (5 * c) hv
  have p5 : 2 ^ hv ≤ 2 ^ 12 := Nat.pow_le_pow_right (by omega) h12
  have e : wrap64 (wrap64 (2 ^ (hv - 5)) - 1) = ((2 ^ (hv - 5) - 1 : Nat) : Int) := by
    rw [p1]; unfold wrap64; omega
  rw [e, andm _ _ (by omega) (by omega), emit_mod s (5 * c) hv h5, Nat.mul_succ]

theorem orE (s : List UInt8) (c hv i : Nat) (b : UInt8) (h5 : hv < 5) (hp : 5 * c + hv = 8 * i) (hc : s[i]? = some b) : bits .or .i64 (wrap64 (((bv s (5 * c) hv : Nat) : Int) * 256)) (wrap64 (b.toNat : Int)) = ((bv s (5 * c) (hv + 8) : Nat) : Int) := by
  have p4 := bv_lt s (5 * c) hv
  have p5 : 2 ^ hv ≤ 2 ^ 5 := Nat.pow_le_pow_right (by omega) (by omega)
  have p6 := b.toNat_lt
  have h1 : wrap64 (((bv s (5 * c) hv : Nat) : Int) * 256) = ((bv s (5 * c) hv * 2 ^ 8 : Nat) : Int) := by unfold wrap64; omega
  have h2 : wrap64 (b.toNat : Int) = (b.toNat : Int) := by unfold wrap64; omega
  rw [h1, h2, or8 _ _ 8 (by omega) (by omega) (by omega)]
  exact congrArg _ (byte_in s (5 * c) hv i b hp hc)
theorem padE (s : List UInt8) (c hv : Nat) (h5 : hv < 5) (he : 8 * s.length ≤ 5 * c + hv) : wrap64 (((bv s (5 * c) hv : Nat) : Int) * 2 ^ (5 - hv)) = ((bv s (5 * c) 5 : Nat) : Int) := by
  have p := bv_lt s (5 * c) 5
  have h1 : ((bv s (5 * c) hv : Nat) : Int) * 2 ^ (5 - hv) = ((bv s (5 * c) 5 : Nat) : Int) := by
    rw [← last_pad s (5 * c) hv (by omega) he]; simp
  rw [h1]; unfold wrap64; omega

set_option maxHeartbeats 4000000 in
set_option maxRecDepth 1000000 in
theorem base32 (s : ByteArray) (w : World) (hs : s.size ≤ 100000) :
    Calls Tryd.prog 10 #[.string s] w fun e w' => e = .returned (.string (b32 s)) ∧ Below w.heap.size w w' := by
  go_enter Tryd.func10, Tryd.ntmps10
  go_wp2
  refine wp_scope_jumps2 0 (J s w) rfl ?_ ?_
  · rintro nn a' w' ⟨c, hv, i, ⟨u7, u8, u9, u10, u11, u12, u13, u14, u15, u16, u17, u18, u19, u20, u21, u22, u23, u24, u25, u26, u27, u28, u29, u30, u31, u32, u33, u34, u35, u36, u37, u38, u39, u40, u41, u42, u43, u44, u45, u46, rfl, hI⟩, hB, hc, hv1, hi, hnn⟩
    have hlen : (Lib.byteCells (encN s.data.toList c)).length = c := by rw [Lib.byteCells_length, encN_length]
    have hbl := bv_lt s.data.toList (5 * c) hv
    by_cases h5 : 5 ≤ hv
    · have e1 : wrap64 ((hv : Int) - 5) = ((hv - 5 : Nat) : Int) := by unfold wrap64; omega
      have e2 : ((bv s.data.toList (5 * c) hv : Nat) : Int) / 2 ^ (hv - 5) = ((bv s.data.toList (5 * c) 5 : Nat) : Int) := by
        rw [← emit_div s.data.toList (5 * c) hv h5]; simp
      have l5 := bv_lt s.data.toList (5 * c) 5
      have e3 := and31 (bv s.data.toList (5 * c) 5) (by omega)
      have e4 := maskE s.data.toList c hv h5 hv1
      have e6 : (hv : Int) - 5 = ((hv - 5 : Nat) : Int) := by omega
      go_wp2_with (first | (go_at_call 25; refine (Bd.writeByte w.heap.size w.heap.size (Lib.byteCells (encN s.data.toList c)) _ _ hI (by omega) hB.size).mono ?_; rintro e w1 ⟨rfl, h1, hb1⟩) | rw [e1] | rw [e2] | rw [e3])
      go_step3
      try rw [e4]
      try rw [e6]
      refine ⟨rfl, 16 * (s.size - i) + (hv - 5), by omega, c + 1, hv - 5, i, ⟨_, _, _, _, _, _, _, _, _, _, _, _, _, _, _, _, _, _, _, _, _, _, _, _, _, _, _, _, _, _, _, _, _, _, _, _, _, _, _, _, rfl, Or.inr ?_⟩, hB.trans hb1, by omega, by omega, hi, rfl⟩
      rw [encN_succ, Lib.byteCells_append]
      have e7 := letIdx (bv s.data.toList (5 * c) 5) l5
      try rw [e7] at h1
      exact h1
    · by_cases hin : i < s.size
      · have e5 := orE s.data.toList c hv i s[i] (by omega) (by omega) (by rw [List.getElem?_eq_getElem (by simpa using hin)]; rfl)
        go_wp2_with fail
        have e6 : (hv : Int) + 8 = ((hv + 8 : Nat) : Int) := by omega
        have e7 : (i : Int) + 1 = ((i + 1 : Nat) : Int) := by omega
        go_step3
        rw [e6, e7]
        exact ⟨rfl, 16 * (s.size - (i + 1)) + (hv + 8), by omega, c, hv + 8, i + 1, ⟨_, _, _, _, _, _, _, _, _, _, _, _, _, _, _, _, _, _, _, _, _, _, _, _, _, _, _, _, _, _, _, _, _, _, _, _, _, _, _, _, rfl, hI⟩, hB, by omega, by omega, by omega, rfl⟩
      · have hlast : 8 * s.data.toList.length ≤ 5 * c + hv := by simp only [Array.length_toList]; show 8 * s.size ≤ _; omega
        by_cases h0 : 0 < hv
        · have e1 : wrap64 (5 - (hv : Int)) = ((5 - hv : Nat) : Int) := by unfold wrap64; omega
          have e2 := padE s.data.toList c hv (by omega) hlast
          have l5 := bv_lt s.data.toList (5 * c) 5
          have e3 := and31 (bv s.data.toList (5 * c) 5) (by omega)
          have e4 := letIdx (bv s.data.toList (5 * c) 5) l5
          have hC : (8 * s.size + 4) / 5 = c + 1 := by omega
          go_wp2_with (first | (go_at_call 25; refine (Bd.writeByte w.heap.size w.heap.size (Lib.byteCells (encN s.data.toList c)) _ _ hI (by omega) hB.size).mono ?_; rintro e w1 ⟨rfl, h1, hb1⟩) | rw [e1] | rw [e2] | rw [e3])
          go_wp2_with (first | (go_at_call 27; refine (Tryd.Builder_String_any w.heap.size w.heap.size (encN s.data.toList (c + 1)) _ (Or.inr (by rw [encN_succ, Lib.byteCells_append]; exact h1)) (hB.trans hb1).size).mono ?_; rintro e w2 ⟨rfl, hb2⟩))
          simp only [Exit.jump]
          go_ret
          refine ⟨?_, (hB.trans hb1).trans hb2⟩
          show Ending.returned (.string ⟨(encN s.data.toList (c + 1)).toArray⟩) = _
          rw [b32, hC]
        · have hz : hv = 0 := by omega
          subst hz
          have hC : (8 * s.size + 4) / 5 = c := by omega
          go_wp2_with (first | (go_at_call 27; refine (Tryd.Builder_String_any w.heap.size w.heap.size (encN s.data.toList c) _ hI hB.size).mono ?_; rintro e w1 ⟨rfl, hb1⟩))
          simp only [Exit.jump]
          go_ret
          refine ⟨?_, hB.trans hb1⟩
          show Ending.returned (.string ⟨(encN s.data.toList c).toArray⟩) = _
          rw [b32, hC]
  · intro hp
    go_wp2
    go_step3
    rename_i hk
    refine hk _ _ (hp (16 * s.size) _ _ ?_)
    exact ⟨0, 0, 0, ⟨_, _, _, _, _, _, _, _, _, _, _, _, _, _, _, _, _, _, _, _, _, _, _, _, _, _, _, _, _, _, _, _, _, _, _, _, _, _, _, _, rfl, Lib.fresh_isBuilder 59 5 w⟩, (Below.refl _ w).alloc (Nat.le_refl _) _, rfl, by omega, by omega, by omega⟩
end Go.Proofs.YtdccglkmkahblaaDoor.Bx
