/- A nil table: what its functions answer. -/
import Derived.Test.YtmimnlbkllgfpaaDoorAk
namespace Go.Proofs.YtmimnlbkllgfpaaDoor.Tb
open Go.RowKit Go.Maps Go.Proofs.YtmimnlbkllgfpaaDoor.A Go.Proofs.YtmimnlbkllgfpaaDoorW.PrintWords

set_option maxRecDepth 100000 in
theorem names_nil (now : Int) (w : World) : Calls Tryd.prog 10 #[.pointer none, .int .i64 now] w fun e w' => e = .returned (.slice none 0 0) ∧ Below w.heap.size w w' := by
  go_enter Tryd.func10, Tryd.ntmps10
  go_wp2
  go_ret
  exact ⟨rfl, Below.refl _ _⟩
set_option maxRecDepth 100000 in
theorem nodes_nil (s : ByteArray) (now : Int) (w : World) : Calls Tryd.prog 11 #[.pointer none, .string s, .int .i64 now] w fun e w' => e = .returned (.slice none 0 0) ∧ Below w.heap.size w w' := by
  go_enter Tryd.func11, Tryd.ntmps11
  go_wp2
  go_ret
  exact ⟨rfl, Below.refl _ _⟩
set_option maxRecDepth 100000 in
theorem len_nil (now : Int) (w : World) : Calls Tryd.prog 12 #[.pointer none, .int .i64 now] w fun e w' => e = .returned (.int .i64 0) ∧ Below w.heap.size w w' := by
  have hN := fun w => names_nil now w
  go_enter Tryd.func12, Tryd.ntmps12
  go_wp2_with (go_at_call 10; refine (hN _).mono ?_; rintro e w1 ⟨rfl, hb⟩)
  go_ret
  exact ⟨rfl, hb⟩
set_option maxRecDepth 100000 in
theorem leave_nil (s : ByteArray) (n now : Int) (w : World) : Calls Tryd.prog 9 #[.pointer none, .string s, .int .i64 n, .int .i64 now] w fun e w' => e = .returned (.int .i64 1) ∧ Below w.heap.size w w' := by
  go_enter Tryd.func9, Tryd.ntmps9
  go_wp2
  go_ret
  exact ⟨rfl, Below.refl _ _⟩
set_option maxRecDepth 100000 in
theorem announce_nil (x : Nt) (now : Int) (w : World) : Calls Tryd.prog 8 #[.pointer none, .agg #[.string x.f0, .int .i64 x.f1, .int .i64 x.f2.f0, .int .i64 x.f2.f1, .int .i64 x.f3], .int .i64 now] w fun e w' => e = .returned (.int .i64 1) ∧ Below w.heap.size w w' := by
  have hB1 : Below w.heap.size w (w.alloc (.cells #[.string x.f0, .int .i64 x.f1, .int .i64 x.f2.f0, .int .i64 x.f2.f1, .int .i64 x.f3] 25)) := (Below.refl _ w).alloc (Nat.le_refl _) _
  go_enter Tryd.func8, Tryd.ntmps8
  go_wp2
  go_ret
  exact ⟨rfl, hB1⟩
set_option maxRecDepth 100000 in
theorem find_nil (s : ByteArray) (x y k now : Int) (w : World) : Calls Tryd.prog 6 #[.pointer none, .string s, .agg #[.int .i64 x, .int .i64 y], .int .i64 k, .int .i64 now] w fun e w' => e = .returned (.tuple #[.slice none 0 0, .int .i64 1]) ∧ Below w.heap.size w w' := by
  have hB1 : Below w.heap.size w (w.alloc (.cells #[.int .i64 x, .int .i64 y] 23)) := (Below.refl _ w).alloc (Nat.le_refl _) _
  go_enter Tryd.func6, Tryd.ntmps6
  go_wp2
  go_ret2
  exact ⟨rfl, by first | exact Below.refl _ _ | exact hB1⟩
set_option maxRecDepth 100000 in
theorem link_nil (s ti : ByteArray) (x y now : Int) (w : World) : Calls Tryd.prog 7 #[.pointer none, .string s, .string ti, .agg #[.int .i64 x, .int .i64 y], .int .i64 now] w fun e w' => e = .returned (.tuple #[.string ⟨#[]⟩, .int .i64 1]) ∧ Below w.heap.size w w' := by
  have hB1 : Below w.heap.size w (w.alloc (.cells #[.int .i64 x, .int .i64 y] 23)) := (Below.refl _ w).alloc (Nat.le_refl _) _
  have hF := fun w => find_nil s x y 6 now w
  go_enter Tryd.func7, Tryd.ntmps7
  go_wp2_with (go_at_call 6; refine (hF _).mono ?_; rintro e w1 ⟨rfl, hb⟩)
  go_ret2
  exact ⟨rfl, hB1.trans (hb.mono hB1.size)⟩
/-- few of one act. -/
theorem few_one (x : S27) (n ti : ByteArray) (a b c d : Int) : ∃ r, mosaiclaw31_few.f 3 [x] n ti a b c d = some r := by
  refine Option.isSome_iff_exists.1 ?_
  unfold mosaiclaw31_few.f
  rw [mosaiclaw31_few.l0, if_pos (by simp), if_neg (by decide), if_pos (by decide)]
  split
  · rfl
  · rw [show wrap64 (0 + 1) = 1 from by unfold wrap64; decide, mosaiclaw31_few.l0, if_neg (by simp)]
    split <;> rfl
end Go.Proofs.YtmimnlbkllgfpaaDoor.Tb
