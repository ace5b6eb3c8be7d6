/- runs.span and strings.Split: a text's runs, walked. -/
import Derived.Test.YtbbncdbihiipcaaDoorTe
import Derived.Test.YtbbncdbihiipcaaDoorPx0
namespace Go.Proofs.YtbbncdbihiipcaaDoor.Hand
open Go.RowKit Go.Proofs.YtbbncdbihiipcaaDoor.P Go.Proofs.YtbbncdbihiipcaaDoorW.PrintWords

theorem cut_len (l : List UInt8) : (Lib.cut l [45]).1.length ≤ l.length ∧ (Lib.cut l [45]).2.1.length ≤ l.length := by
  unfold Lib.cut
  split
  · exact ⟨by show (l.take _).length ≤ _; rw [List.length_take]; omega, by show (l.drop _).length ≤ _; rw [List.length_drop]; omega⟩
  · exact ⟨Nat.le_refl _, Nat.zero_le _⟩
set_option maxHeartbeats 2000000 in
set_option maxRecDepth 100000 in
/-- No number ahead of the sign. -/
theorem span_bad1 (s a b : ByteArray) (c : Bool) (w : World)
    (hC : ∀ w', Below w.heap.size w w' → Calls Tryd.prog 78 #[.string s, .string ⟨#[45]⟩] w' fun e w2 => e = .returned (.tuple #[.string a, .string b, .bool c]) ∧ Below w'.heap.size w' w2)
    (hA : ∀ w', Below w.heap.size w w' → Calls Tryd.prog 79 #[.string a] w' fun e w2 => ∃ n N, e = .returned (.tuple #[.int .i64 n, .iface 120 (.pointer (some ⟨N, 0, none⟩))]) ∧ Below w'.heap.size w' w2) :
    Calls Tryd.prog 58 #[.string s] w fun e w' => e = .returned (.agg #[.int .i64 0, .int .i64 0]) ∧ Below w.heap.size w w' := by
  have hB1 : Below w.heap.size w (w.alloc (.cells #[.int .i64 0, .int .i64 0] 39)) := (Below.refl _ w).alloc (Nat.le_refl _) _
  have hn1 : (w.alloc (.cells #[.int .i64 0, .int .i64 0] 39)).heap[w.heap.size]? = some (.cells #[.int .i64 0, .int .i64 0] 39 (0, 0)) := blk_new w _
  have hC1 := hC _ hB1
  go_enter Tryd.func58, Tryd.ntmps58
  go_wp2_with (first | (go_at_call 78; refine hC1.mono ?_; rintro e w1 ⟨rfl, hb1⟩; have hB2 := hB1.trans (hb1.mono hB1.size); have hn2 := blk_below hn1 hb1; clear hC hC1 hb1) | (go_at_call 79; refine (hA _ hB2).mono ?_; rintro e w2 ⟨n2, N2, rfl, hb2⟩; have hB3 := hB2.trans (hb2.mono hB2.size); have hn3 := blk_below hn2 hb2; clear hA hb2; have hf0 := blk_frozen hn3 0; have hf1 := blk_frozen hn3 1; have hc0 := blk_cell hn3 0; have hc1 := blk_cell hn3 1))
  have g0 := blk_put hn3 0 (.int .i64 (0)) rfl
  have g1 := blk_put g0 1 (.int .i64 (0)) rfl
  have k0 := blk_cell g1 0
  have k1 := blk_cell g1 1
  refine bodyPost_ret (v := .agg #[.int .i64 (0), .int .i64 (0)]) ?_ rfl ⟨rfl, ?_⟩
  · simp [results, go_sem, k0, k1]
  · exact (hB3.setCell (p := ⟨w.heap.size, 0, none⟩) (Nat.le_refl _) _).setCell (p := ⟨w.heap.size, 1, none⟩) (Nat.le_refl _) _
set_option maxHeartbeats 2000000 in
set_option maxRecDepth 100000 in
/-- One number. -/
theorem span_one (s a b : ByteArray) (lo : Int) (w : World)
    (hC : ∀ w', Below w.heap.size w w' → Calls Tryd.prog 78 #[.string s, .string ⟨#[45]⟩] w' fun e w2 => e = .returned (.tuple #[.string a, .string b, .bool false]) ∧ Below w'.heap.size w' w2)
    (hA : ∀ w', Below w.heap.size w w' → Calls Tryd.prog 79 #[.string a] w' fun e w2 => e = .returned (.tuple #[.int .i64 lo, .nilIface]) ∧ Below w'.heap.size w' w2) :
    Calls Tryd.prog 58 #[.string s] w fun e w' => e = .returned (.agg #[.int .i64 lo, .int .i64 (wrap64 (lo + 1))]) ∧ Below w.heap.size w w' := by
  have hB1 : Below w.heap.size w (w.alloc (.cells #[.int .i64 0, .int .i64 0] 39)) := (Below.refl _ w).alloc (Nat.le_refl _) _
  have hn1 : (w.alloc (.cells #[.int .i64 0, .int .i64 0] 39)).heap[w.heap.size]? = some (.cells #[.int .i64 0, .int .i64 0] 39 (0, 0)) := blk_new w _
  have hC1 := hC _ hB1
  have u1 : IntKind.i64.wrap (lo + 1) = wrap64 (lo + 1) := by rw [IntKind.wrap_i64, wrap64]
  go_enter Tryd.func58, Tryd.ntmps58
  go_wp2_with (first | (go_at_call 78; refine hC1.mono ?_; rintro e w1 ⟨rfl, hb1⟩; have hB2 := hB1.trans (hb1.mono hB1.size); have hn2 := blk_below hn1 hb1; clear hC hC1 hb1) | (go_at_call 79; refine (hA _ hB2).mono ?_; rintro e w2 ⟨rfl, hb2⟩; have hB3 := hB2.trans (hb2.mono hB2.size); have hn3 := blk_below hn2 hb2; clear hA hb2; have hf0 := blk_frozen hn3 0; have hf1 := blk_frozen hn3 1; have hc0 := blk_cell hn3 0; have hc1 := blk_cell hn3 1))
  have g0 := blk_put hn3 0 (.int .i64 (lo)) rfl
  have g1 := blk_put g0 1 (.int .i64 ((wrap64 (lo + 1)))) rfl
  have k0 := blk_cell g1 0
  have k1 := blk_cell g1 1
  refine bodyPost_ret (v := .agg #[.int .i64 (lo), .int .i64 ((wrap64 (lo + 1)))]) ?_ rfl ⟨rfl, ?_⟩
  · simp [results, go_sem, k0, k1]
  · exact (hB3.setCell (p := ⟨w.heap.size, 0, none⟩) (Nat.le_refl _) _).setCell (p := ⟨w.heap.size, 1, none⟩) (Nat.le_refl _) _
set_option maxHeartbeats 2000000 in
set_option maxRecDepth 100000 in
/-- No number behind the sign. -/
theorem span_bad2 (s a b : ByteArray) (lo : Int) (w : World)
    (hC : ∀ w', Below w.heap.size w w' → Calls Tryd.prog 78 #[.string s, .string ⟨#[45]⟩] w' fun e w2 => e = .returned (.tuple #[.string a, .string b, .bool true]) ∧ Below w'.heap.size w' w2)
    (hA : ∀ w', Below w.heap.size w w' → Calls Tryd.prog 79 #[.string a] w' fun e w2 => e = .returned (.tuple #[.int .i64 lo, .nilIface]) ∧ Below w'.heap.size w' w2)
    (hD : ∀ w', Below w.heap.size w w' → Calls Tryd.prog 79 #[.string b] w' fun e w2 => ∃ n N, e = .returned (.tuple #[.int .i64 n, .iface 120 (.pointer (some ⟨N, 0, none⟩))]) ∧ Below w'.heap.size w' w2) :
    Calls Tryd.prog 58 #[.string s] w fun e w' => e = .returned (.agg #[.int .i64 0, .int .i64 0]) ∧ Below w.heap.size w w' := by
  have hB1 : Below w.heap.size w (w.alloc (.cells #[.int .i64 0, .int .i64 0] 39)) := (Below.refl _ w).alloc (Nat.le_refl _) _
  have hn1 : (w.alloc (.cells #[.int .i64 0, .int .i64 0] 39)).heap[w.heap.size]? = some (.cells #[.int .i64 0, .int .i64 0] 39 (0, 0)) := blk_new w _
  have hC1 := hC _ hB1
  go_enter Tryd.func58, Tryd.ntmps58
  go_wp2_with (first | (go_at_call 78; refine hC1.mono ?_; rintro e w1 ⟨rfl, hb1⟩; have hB2 := hB1.trans (hb1.mono hB1.size); have hn2 := blk_below hn1 hb1; clear hC hC1 hb1) | (go_at_call 79; refine (hA _ hB2).mono ?_; rintro e w2 ⟨rfl, hb2⟩; have hB3 := hB2.trans (hb2.mono hB2.size); have hn3 := blk_below hn2 hb2; clear hA hb2) | (go_at_call 79; refine (hD _ hB3).mono ?_; rintro e w3 ⟨n3, N3, rfl, hb3⟩; have hB4 := hB3.trans (hb3.mono hB3.size); have hn4 := blk_below hn3 hb3; clear hD hb3; have hf0 := blk_frozen hn4 0; have hf1 := blk_frozen hn4 1; have hc0 := blk_cell hn4 0; have hc1 := blk_cell hn4 1))
  have g0 := blk_put hn4 0 (.int .i64 (0)) rfl
  have g1 := blk_put g0 1 (.int .i64 (0)) rfl
  have k0 := blk_cell g1 0
  have k1 := blk_cell g1 1
  refine bodyPost_ret (v := .agg #[.int .i64 (0), .int .i64 (0)]) ?_ rfl ⟨rfl, ?_⟩
  · simp [results, go_sem, k0, k1]
  · exact (hB4.setCell (p := ⟨w.heap.size, 0, none⟩) (Nat.le_refl _) _).setCell (p := ⟨w.heap.size, 1, none⟩) (Nat.le_refl _) _
set_option maxHeartbeats 2000000 in
set_option maxRecDepth 100000 in
/-- A number behind the sign that is too large. -/
theorem span_big (s a b : ByteArray) (lo hi : Int) (hgt : hi > 160) (w : World)
    (hC : ∀ w', Below w.heap.size w w' → Calls Tryd.prog 78 #[.string s, .string ⟨#[45]⟩] w' fun e w2 => e = .returned (.tuple #[.string a, .string b, .bool true]) ∧ Below w'.heap.size w' w2)
    (hA : ∀ w', Below w.heap.size w w' → Calls Tryd.prog 79 #[.string a] w' fun e w2 => e = .returned (.tuple #[.int .i64 lo, .nilIface]) ∧ Below w'.heap.size w' w2)
    (hD : ∀ w', Below w.heap.size w w' → Calls Tryd.prog 79 #[.string b] w' fun e w2 => e = .returned (.tuple #[.int .i64 hi, .nilIface]) ∧ Below w'.heap.size w' w2) :
    Calls Tryd.prog 58 #[.string s] w fun e w' => e = .returned (.agg #[.int .i64 0, .int .i64 0]) ∧ Below w.heap.size w w' := by
  have hB1 : Below w.heap.size w (w.alloc (.cells #[.int .i64 0, .int .i64 0] 39)) := (Below.refl _ w).alloc (Nat.le_refl _) _
  have hn1 : (w.alloc (.cells #[.int .i64 0, .int .i64 0] 39)).heap[w.heap.size]? = some (.cells #[.int .i64 0, .int .i64 0] 39 (0, 0)) := blk_new w _
  have hC1 := hC _ hB1
  go_enter Tryd.func58, Tryd.ntmps58
  go_wp2_with (first | (go_at_call 78; refine hC1.mono ?_; rintro e w1 ⟨rfl, hb1⟩; have hB2 := hB1.trans (hb1.mono hB1.size); have hn2 := blk_below hn1 hb1; clear hC hC1 hb1) | (go_at_call 79; refine (hA _ hB2).mono ?_; rintro e w2 ⟨rfl, hb2⟩; have hB3 := hB2.trans (hb2.mono hB2.size); have hn3 := blk_below hn2 hb2; clear hA hb2) | (go_at_call 79; refine (hD _ hB3).mono ?_; rintro e w3 ⟨rfl, hb3⟩; have hB4 := hB3.trans (hb3.mono hB3.size); have hn4 := blk_below hn3 hb3; clear hD hb3; have hf0 := blk_frozen hn4 0; have hf1 := blk_frozen hn4 1; have hc0 := blk_cell hn4 0; have hc1 := blk_cell hn4 1))
  have g0 := blk_put hn4 0 (.int .i64 (0)) rfl
  have g1 := blk_put g0 1 (.int .i64 (0)) rfl
  have k0 := blk_cell g1 0
  have k1 := blk_cell g1 1
  refine bodyPost_ret (v := .agg #[.int .i64 (0), .int .i64 (0)]) ?_ rfl ⟨rfl, ?_⟩
  · simp [results, go_sem, k0, k1]
  · exact (hB4.setCell (p := ⟨w.heap.size, 0, none⟩) (Nat.le_refl _) _).setCell (p := ⟨w.heap.size, 1, none⟩) (Nat.le_refl _) _
set_option maxHeartbeats 2000000 in
set_option maxRecDepth 100000 in
/-- Two numbers. -/
theorem span_two (s a b : ByteArray) (lo hi : Int) (hgt : ¬ hi > 160) (w : World)
    (hC : ∀ w', Below w.heap.size w w' → Calls Tryd.prog 78 #[.string s, .string ⟨#[45]⟩] w' fun e w2 => e = .returned (.tuple #[.string a, .string b, .bool true]) ∧ Below w'.heap.size w' w2)
    (hA : ∀ w', Below w.heap.size w w' → Calls Tryd.prog 79 #[.string a] w' fun e w2 => e = .returned (.tuple #[.int .i64 lo, .nilIface]) ∧ Below w'.heap.size w' w2)
    (hD : ∀ w', Below w.heap.size w w' → Calls Tryd.prog 79 #[.string b] w' fun e w2 => e = .returned (.tuple #[.int .i64 hi, .nilIface]) ∧ Below w'.heap.size w' w2) :
    Calls Tryd.prog 58 #[.string s] w fun e w' => e = .returned (.agg #[.int .i64 lo, .int .i64 (wrap64 (hi + 1))]) ∧ Below w.heap.size w w' := by
  have hB1 : Below w.heap.size w (w.alloc (.cells #[.int .i64 0, .int .i64 0] 39)) := (Below.refl _ w).alloc (Nat.le_refl _) _
  have hn1 : (w.alloc (.cells #[.int .i64 0, .int .i64 0] 39)).heap[w.heap.size]? = some (.cells #[.int .i64 0, .int .i64 0] 39 (0, 0)) := blk_new w _
  have hC1 := hC _ hB1
  have u1 : IntKind.i64.wrap (hi + 1) = wrap64 (hi + 1) := by rw [IntKind.wrap_i64, wrap64]
  go_enter Tryd.func58, Tryd.ntmps58
  go_wp2_with (first | (go_at_call 78; refine hC1.mono ?_; rintro e w1 ⟨rfl, hb1⟩; have hB2 := hB1.trans (hb1.mono hB1.size); have hn2 := blk_below hn1 hb1; clear hC hC1 hb1) | (go_at_call 79; refine (hA _ hB2).mono ?_; rintro e w2 ⟨rfl, hb2⟩; have hB3 := hB2.trans (hb2.mono hB2.size); have hn3 := blk_below hn2 hb2; clear hA hb2) | (go_at_call 79; refine (hD _ hB3).mono ?_; rintro e w3 ⟨rfl, hb3⟩; have hB4 := hB3.trans (hb3.mono hB3.size); have hn4 := blk_below hn3 hb3; clear hD hb3; have hf0 := blk_frozen hn4 0; have hf1 := blk_frozen hn4 1; have hc0 := blk_cell hn4 0; have hc1 := blk_cell hn4 1))
  have g0 := blk_put hn4 0 (.int .i64 (lo)) rfl
  have g1 := blk_put g0 1 (.int .i64 ((wrap64 (hi + 1)))) rfl
  have k0 := blk_cell g1 0
  have k1 := blk_cell g1 1
  refine bodyPost_ret (v := .agg #[.int .i64 (lo), .int .i64 ((wrap64 (hi + 1)))]) ?_ rfl ⟨rfl, ?_⟩
  · simp [results, go_sem, k0, k1]
  · exact (hB4.setCell (p := ⟨w.heap.size, 0, none⟩) (Nat.le_refl _) _).setCell (p := ⟨w.heap.size, 1, none⟩) (Nat.le_refl _) _
theorem of_list (l : List UInt8) : (⟨l.toArray⟩ : ByteArray).data.toList = l := rfl
theorem runs_span.calls (a0 : ByteArray) (r1 : Int) (r2 : Int) (w : World) (h : runs_span.f a0 = some (r1, r2)) (hTab : LibW w) :
    Calls Tryd.prog 58 #[.string a0] w fun e w' => e = .returned (.agg #[.int .i64 r1, .int .i64 r2]) ∧ Below w.heap.size w w' := by
  unfold runs_span.f at h
  split at h
  · rename_i hs
    have hc := cut_len a0.data.toList
    have hz : a0.data.toList.length = a0.size := rfl
    have sa : (⟨(Lib.cut a0.data.toList [45]).1.toArray⟩ : ByteArray).size ≤ 1000000 := by show (Lib.cut a0.data.toList [45]).1.length ≤ _; omega
    have sb : (⟨(Lib.cut a0.data.toList [45]).2.1.toArray⟩ : ByteArray).size ≤ 1000000 := by show (Lib.cut a0.data.toList [45]).2.1.length ≤ _; omega
    have hC := fun (c : Bool) (hc : c = (Lib.cut a0.data.toList [45]).2.2) (w' : World) (hb : Below w.heap.size w w') => cut a0 hs w' (hTab.below hb) _ _ c rfl rfl hc
    split at h
    · rename_i hA
      obtain ⟨rfl, rfl⟩ := Prod.mk.inj (Option.some.inj h)
      exact span_bad1 a0 _ _ _ w (hC _ rfl) (fun w' hb => atoi_no _ sa hA w' (hTab.below hb))
    · rename_i lo hA
      split at h
      · rename_i h2
        split at h
        · rename_i hB
          obtain ⟨rfl, rfl⟩ := Prod.mk.inj (Option.some.inj h)
          exact span_bad2 a0 _ _ lo w (hC true h2.symm) (fun w' _ => atoi_ok _ sa lo hA w') (fun w' hb => atoi_no _ sb hB w' (hTab.below hb))
        · rename_i hi hB
          split at h
          · rename_i hgt
            obtain ⟨rfl, rfl⟩ := Prod.mk.inj (Option.some.inj h)
            exact span_big a0 _ _ lo hi hgt w (hC true h2.symm) (fun w' _ => atoi_ok _ sa lo hA w') (fun w' _ => atoi_ok _ sb hi hB w')
          · rename_i hgt
            obtain ⟨rfl, rfl⟩ := Prod.mk.inj (Option.some.inj h)
            exact span_two a0 _ _ _ hi hgt w (hC true h2.symm) (fun w' _ => atoi_ok _ sa _ hA w') (fun w' _ => atoi_ok _ sb hi hB w')
      · rename_i h2
        obtain ⟨rfl, rfl⟩ := Prod.mk.inj (Option.some.inj h)
        exact span_one a0 _ _ _ w (hC false (by cases hh : (Lib.cut a0.data.toList [45]).2.2; rfl; exact absurd hh h2)) (fun w' _ => atoi_ok _ sa _ hA w')
  · cases h
/-- A text's pieces. -/
def strings_Split.f (a0 a1 : ByteArray) : Option (List ByteArray) := if a0.size ≤ 1000000 ∧ a1.size = 1 then some (Lib.splitB a1 0 (Lib.countB a0 a1) a0) else none
theorem strings_Split.calls (a0 a1 : ByteArray) (r : List ByteArray) (w : World) (h : strings_Split.f a0 a1 = some r) (hTab : LibW w) :
    Calls Tryd.prog 57 #[.string a0, .string a1] w fun e w' => ∃ v0_ : Value, e = .returned v0_ ∧ Kd.R Kd.string 9 w' w.heap.size (fun _ => True) v0_ r ∧ Below w.heap.size w w' := by
  unfold strings_Split.f at h
  split at h
  · rename_i hs
    obtain rfl := Option.some.inj h
    obtain ⟨m, hm⟩ := hTab.max
    have hlen := Lib.splitB_all a1 (by omega) 0 _ a0 rfl
    refine (Tryd.strings_Split a0 a1 m w (by omega) hm (by omega)).mono ?_
    rintro e w' ⟨rfl, rfl⟩
    refine ⟨_, rfl, ?_, (Below.refl _ w).alloc (Nat.le_refl _) _⟩
    have hcl := Lib.countB_le a1 (by omega) a0.size a0 (Nat.le_refl _)
    rw [← hlen]
    generalize Lib.splitB a1 0 (Lib.countB a0 a1) a0 = l at *
    refine Kd.R_of_own (enc := Value.string) ⟨?_, Or.inr ⟨w.heap.size, l.length, _, rfl, Nat.le_refl _, blk_new w _, Nat.le_refl _, ?_, ?_, ?_⟩⟩ (fun _ _ => trivial)
    · simp [encs]
    · unfold maxLen; omega
    · simp
    · rw [Nat.mul_one, List.take_of_length_le (by simp)]; rfl
  · cases h
end Go.Proofs.YtbbncdbihiipcaaDoor.Hand
