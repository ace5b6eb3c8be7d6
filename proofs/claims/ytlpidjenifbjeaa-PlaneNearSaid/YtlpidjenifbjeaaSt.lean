/- slices.stableCmpFunc, slices.SortStableFunc: walked. -/
import Derived.Test.YtlpidjenifbjeaaSi
import Derived.Test.YtlpidjenifbjeaaSv
import Derived.Test.YtlpidjenifbjeaaSb
namespace Go.Proofs.Ytlpidjenifbjeaa.Sw
open Go.RowKit Go.Proofs.YtlpidjenifbjeaaW.PrintWords Go.Proofs.PlaceSort

/-- Blocks of 20, the first of them sorted. -/
structure One (B : World) (blk : Nat) (d : Int → Int) (X : List Int) (a : Nat) (W : World) : Prop where
  ex : ∃ X0 L0 X1, X = X0 ++ X1 ∧ Bf d 20 X0 L0 ∧ X0.length = a ∧ Arr B blk (L0 ++ X1) W
/-- Sorted in blocks of s. -/
structure All (B : World) (blk : Nat) (d : Int → Int) (X : List Int) (s : Nat) (W : World) : Prop where
  ex : ∃ L, Bl d s X L ∧ Arr B blk L W
/-- In blocks of 2 s below a, of s behind. -/
structure Two (B : World) (blk : Nat) (d : Int → Int) (X : List Int) (s a : Nat) (W : World) : Prop where
  ex : ∃ X0 L0 X1 L1, X = X0 ++ X1 ∧ Bf d (2 * s) X0 L0 ∧ X0.length = a ∧ Bl d s X1 L1 ∧ Arr B blk (L0 ++ L1) W
theorem One.step {B : World} {blk cap g : Nat} {cb : Array Value} {d : Int → Int} {X : List Int} {n a b : Nat} {W : World} (h : One B blk d X a W) (hX : n = X.length) (hn : n ≤ 100000) (hin : ∀ y ∈ X, 0 ≤ y ∧ y < n) (eg : ∀ args w, (callFunc g args).run Try.prog w = .ok (.enter g args) w) (hC : CmpIs B blk g cb d n) (hb : b = a + 20) (hbn : b ≤ n) :
    Calls Try.prog 52 #[.slice (some ⟨blk, 0, none⟩) n cap, .int .i64 a, .int .i64 b, .func (.func g) #[] cb] W fun e w' => e = .returned (.tuple #[]) ∧ One B blk d X b w' := by
  obtain ⟨X0, L0, X1, rfl, hB, ha, hA⟩ := h.ex
  have hl := hB.len
  rw [List.length_append] at hX
  have l1 : (X1.take 20).length = 20 := by rw [List.length_take]; omega
  have hX1 : X1 = X1.take 20 ++ X1.drop 20 := (List.take_append_drop 20 X1).symm
  generalize X1.take 20 = Y at l1 hX1
  generalize X1.drop 20 = Z at hX1
  subst hX1
  refine (insertion B blk cap g cb d L0 Y Z _ _ n a b (by simp only [List.length_append] at *; omega) (by omega) (by omega) (by omega) rfl rfl (fun y hy => hin y (by
    simp only [List.mem_append, hB.mem] at hy ⊢
    rcases hy with (h | h) | h
    · exact Or.inl h
    · exact Or.inr (Or.inl h)
    · exact Or.inr (Or.inr h))) W eg hC (by simpa using hA)).mono ?_
  rintro e w' ⟨rfl, hA'⟩
  exact ⟨rfl, ⟨X0 ++ Y, L0 ++ srt d Y, Z, by simp, .snoc hB l1, by rw [List.length_append]; omega, hA'⟩⟩
theorem One.last {B : World} {blk cap g : Nat} {cb : Array Value} {d : Int → Int} {X : List Int} {n a : Nat} {W : World} (h : One B blk d X a W) (hX : n = X.length) (hn : n ≤ 100000) (hin : ∀ y ∈ X, 0 ≤ y ∧ y < n) (eg : ∀ args w, (callFunc g args).run Try.prog w = .ok (.enter g args) w) (hC : CmpIs B blk g cb d n) (hbn : n < a + 20) :
    Calls Try.prog 52 #[.slice (some ⟨blk, 0, none⟩) n cap, .int .i64 a, .int .i64 n, .func (.func g) #[] cb] W fun e w' => e = .returned (.tuple #[]) ∧ All B blk d X 20 w' := by
  obtain ⟨X0, L0, X1, rfl, hB, ha, hA⟩ := h.ex
  have hl := hB.len
  rw [List.length_append] at hX
  refine (insertion B blk cap g cb d L0 X1 [] _ _ n a n (by simp only [List.length_append, List.length_nil] at *; omega) (by omega) (by omega) (by omega) rfl rfl (fun y hy => hin y (by
    simp only [List.mem_append, hB.mem] at hy ⊢
    rcases hy with (h | h) | h
    · exact Or.inl h
    · exact Or.inr h
    · cases h)) W eg hC (by simpa using hA)).mono ?_
  rintro e w' ⟨rfl, hA'⟩
  exact ⟨rfl, ⟨L0 ++ srt d X1, hB.app (.last (by omega)), by simpa using hA'⟩⟩
theorem All.start {B : World} {blk : Nat} {d : Int → Int} {X : List Int} {s : Nat} {W : World} (h : All B blk d X s W) : Two B blk d X s 0 W := by
  obtain ⟨L, hL, hA⟩ := h.ex
  exact ⟨[], [], X, L, rfl, .nil, rfl, hL, hA⟩
theorem Two.step {B : World} {blk cap g : Nat} {cb : Array Value} {d : Int → Int} {X : List Int} {n s a m b : Nat} {W : World} (h : Two B blk d X s a W) (hX : n = X.length) (hn : n ≤ 100000) (hs : 1 ≤ s) (hin : ∀ y ∈ X, 0 ≤ y ∧ y < n) (eg : ∀ args w, (callFunc g args).run Try.prog w = .ok (.enter g args) w) (hC : CmpIs B blk g cb d n) (hm : m = a + s) (hb : b = a + 2 * s) (hbn : b ≤ n) :
    Calls Try.prog 53 #[.slice (some ⟨blk, 0, none⟩) n cap, .int .i64 a, .int .i64 m, .int .i64 b, .func (.func g) #[] cb] W fun e w' => e = .returned (.tuple #[]) ∧ Two B blk d X s b w' := by
  obtain ⟨X0, L0, X1, L1, rfl, hB, ha, hB1, hA⟩ := h.ex
  have hl := hB.len
  rw [List.length_append] at hX
  obtain ⟨Y, Z, X', L', rfl, rfl, hy, hz, hB2⟩ := hB1.two (by omega) (by omega)
  have hl2 := hB2.len
  refine (symMerge B blk cap g cb d L0 (srt d Y) (srt d Z) L' _ _ n a m b (by rw [srt_len]; omega) (by rw [srt_len]; omega) (by simp only [List.length_append, srt_len] at *; omega) (by omega) (by omega) (by rw [srt_len]; omega) (by rw [srt_len]; omega) rfl rfl (srt_up _ _) (srt_up _ _) (fun y hy => hin y (by
    simp only [List.mem_append, hB.mem, hB2.mem, srt_mem] at hy ⊢
    rcases hy with ((h | h) | h) | h
    · exact Or.inl h
    · exact Or.inr (Or.inl (Or.inl h))
    · exact Or.inr (Or.inl (Or.inr h))
    · exact Or.inr (Or.inr h))) W eg hC (by simpa using hA)).mono ?_
  rintro e w' ⟨rfl, hA'⟩
  rw [← srt_app] at hA'
  exact ⟨rfl, ⟨X0 ++ (Y ++ Z), L0 ++ srt d (Y ++ Z), X', L', by simp, .snoc hB (by rw [List.length_append]; omega), by simp only [List.length_append]; omega, hB2, hA'⟩⟩
theorem Two.last {B : World} {blk cap g : Nat} {cb : Array Value} {d : Int → Int} {X : List Int} {n s a m : Nat} {W : World} (h : Two B blk d X s a W) (hX : n = X.length) (hn : n ≤ 100000) (hs : 1 ≤ s) (hin : ∀ y ∈ X, 0 ≤ y ∧ y < n) (eg : ∀ args w, (callFunc g args).run Try.prog w = .ok (.enter g args) w) (hC : CmpIs B blk g cb d n) (hm : m = a + s) (hmn : m < n) (hbn : n < a + 2 * s) :
    Calls Try.prog 53 #[.slice (some ⟨blk, 0, none⟩) n cap, .int .i64 a, .int .i64 m, .int .i64 n, .func (.func g) #[] cb] W fun e w' => e = .returned (.tuple #[]) ∧ All B blk d X (2 * s) w' := by
  obtain ⟨X0, L0, X1, L1, rfl, hB, ha, hB1, hA⟩ := h.ex
  have hl := hB.len
  rw [List.length_append] at hX
  obtain ⟨Y, Z, rfl, rfl, hy, hz, hz2⟩ := hB1.more (by omega) (by omega)
  rw [List.length_append] at hX
  refine (symMerge B blk cap g cb d L0 (srt d Y) (srt d Z) [] _ _ n a m n (by rw [srt_len]; omega) (by rw [srt_len]; omega) (by simp only [List.length_append, srt_len, List.length_nil] at *; omega) (by omega) (by omega) (by rw [srt_len]; omega) (by rw [srt_len]; omega) rfl rfl (srt_up _ _) (srt_up _ _) (fun y hy => hin y (by
    simp only [List.mem_append, hB.mem, srt_mem] at hy ⊢
    rcases hy with ((h | h) | h) | h
    · exact Or.inl h
    · exact Or.inr (Or.inl h)
    · exact Or.inr (Or.inr h)
    · cases h)) W eg hC (by simpa using hA)).mono ?_
  rintro e w' ⟨rfl, hA'⟩
  rw [← srt_app] at hA'
  exact ⟨rfl, ⟨L0 ++ srt d (Y ++ Z), hB.app (.last (by rw [List.length_append]; omega)), by simpa using hA'⟩⟩
theorem Two.stop {B : World} {blk : Nat} {d : Int → Int} {X : List Int} {n s a : Nat} {W : World} (h : Two B blk d X s a W) (hX : n = X.length) (hmn : n ≤ a + s) : All B blk d X (2 * s) W := by
  obtain ⟨X0, L0, X1, L1, rfl, hB, ha, hB1, hA⟩ := h.ex
  rw [List.length_append] at hX
  rw [hB1.all (by omega)] at hA
  exact ⟨L0 ++ srt d X1, hB.app (.last (by omega)), hA⟩
set_option maxHeartbeats 4000000 in
set_option maxRecDepth 100000 in
theorem stable (B : World) (blk cap n g : Nat) (cb : Array Value) (d : Int → Int) (X : List Int) (hX : n = X.length) (hn : n ≤ 100000) (hin : ∀ y ∈ X, 0 ≤ y ∧ y < n) (w : World) (eg : ∀ args w, (callFunc g args).run Try.prog w = .ok (.enter g args) w) (hC : CmpIs B blk g cb d n) (hA : Arr B blk X w) :
    Calls Try.prog 50 #[.slice (some ⟨blk, 0, none⟩) n cap, .int .i64 n, .func (.func g) #[] cb] w fun e w' => e = .returned (.tuple #[]) ∧ Arr B blk (srt d X) w' := by
  have c1 := fun (W : World) (a b : Nat) (h : One B blk d X a W) (hb : b = a + 20) (hbn : b ≤ n) => h.step (cap := cap) hX hn hin eg hC hb hbn
  have c2 := fun (W : World) (a : Nat) (h : One B blk d X a W) (hb : n < a + 20) => h.last (cap := cap) hX hn hin eg hC hb
  have c3 := fun (W : World) (s a m b : Nat) (h : Two B blk d X s a W) (hs : 1 ≤ s) (hm : m = a + s) (hb : b = a + 2 * s) (hbn : b ≤ n) => h.step (cap := cap) hX hn hs hin eg hC hm hb hbn
  have c4 := fun (W : World) (s a m : Nat) (h : Two B blk d X s a W) (hs : 1 ≤ s) (hm : m = a + s) (hmn : m < n) (hbn : n < a + 2 * s) => h.last (cap := cap) hX hn hs hin eg hC hm hmn hbn
  have c5 := fun (W : World) (s a : Nat) (h : Two B blk d X s a W) (hmn : n ≤ a + s) => h.stop hX hmn
  have c6 := fun (W : World) (s : Nat) (h : All B blk d X s W) (hs : n ≤ s) => show Arr B blk (srt d X) W from by
    obtain ⟨L, hL, hA⟩ := h.ex
    rw [← hL.all (by omega)]; exact hA
  have H0 : One B blk d X 0 w := ⟨[], [], X, rfl, .nil, rfl, hA⟩
  clear hX hin hC hA eg
  go_enter Try.func50, Try.ntmps50
  go_wp2
  go_loopw [7, 8] (fun av bv wr => ∃ a : Nat, a ≤ n ∧ av = .int .i64 a ∧ bv = .int .i64 ((a : Int) + 20) ∧ One B blk d X a wr) (fun av _ _ => n - (intOf av).toNat)
  case atStart => exact ⟨0, by omega, rfl, rfl, H0⟩
  case round =>
    obtain ⟨a, ha, rfl, rfl, hI⟩ := hrel
    by_cases hlt : a + 20 ≤ n
    · have hc := c1 wr a (a + 20) hI rfl hlt
      have gl : (a : Int) + 20 ≤ (n : Int) := by omega
      have wb : IntKind.i64.wrap ((a : Int) + 20 + 20) = (a : Int) + 20 + 20 := by rw [IntKind.wrap_i64]; omega
      rw [Int.natCast_add] at hc
      clear c1 c2 c3 c4 c5 c6 hI
      go_wp2_with (go_at_call 52; refine hc.mono ?_; rintro e w1 ⟨rfl, h1⟩)
      exact ⟨⟨a + 20, hlt, by rw [Int.natCast_add]; rfl, by rw [Int.natCast_add]; rfl, h1⟩, by show n - ((a : Int) + 20).toNat < n - (a : Int).toNat; omega⟩
    · have hc := c2 wr a hI (by omega)
      have gl : ¬ (a : Int) + 20 ≤ (n : Int) := by omega
      clear c1 c2 hI
      go_wp2_with (go_at_call 52; refine hc.mono ?_; rintro e w1 ⟨rfl, h1⟩)
      clear hc
      go_loopw [6] (fun sv wr2 => ∃ s : Nat, 20 ≤ s ∧ s ≤ 2 * n + 20 ∧ sv = .int .i64 s ∧ All B blk d X s wr2) (fun sv _ => n - (intOf sv).toNat)
      case atStart => exact ⟨20, by omega, by omega, rfl, h1⟩
      case round =>
        obtain ⟨s, hs, hs2, rfl, hS⟩ := hrel
        by_cases hsn : s < n
        · have g2 : (s : Int) < (n : Int) := by omega
          have w2 : IntKind.i64.wrap (2 * (s : Int)) = 2 * (s : Int) := by rw [IntKind.wrap_i64]; omega
          have w2' : IntKind.i64.wrap ((s : Int) * 2) = (s : Int) * 2 := by rw [IntKind.wrap_i64]; omega
          have hS0 := hS.start
          clear hS c6
          go_wp2_with fail
          go_loopw [7, 8] (fun av bv wr3 => ∃ a : Nat, a ≤ n ∧ av = .int .i64 a ∧ bv = .int .i64 ((a : Int) + 2 * (s : Int)) ∧ Two B blk d X s a wr3) (fun av _ _ => n - (intOf av).toNat)
          case atStart => exact ⟨0, by omega, rfl, by rw [Int.natCast_zero, Int.zero_add], hS0⟩
          case round =>
            obtain ⟨a, ha, rfl, rfl, hT⟩ := hrel
            have wm : IntKind.i64.wrap ((a : Int) + (s : Int)) = (a : Int) + (s : Int) := by rw [IntKind.wrap_i64]; omega
            by_cases hb : a + 2 * s ≤ n
            · have hc := c3 _ s a (a + s) (a + 2 * s) hT (by omega) rfl rfl hb
              rw [Int.natCast_add, Int.natCast_add, Int.natCast_mul] at hc
              have g3 : (a : Int) + 2 * (s : Int) ≤ (n : Int) := by omega
              have wb : IntKind.i64.wrap ((a : Int) + 2 * (s : Int) + 2 * (s : Int)) = (a : Int) + 2 * (s : Int) + 2 * (s : Int) := by rw [IntKind.wrap_i64]; omega
              clear c3 c4 c5 hT
              go_wp2_with (go_at_call 53; refine hc.mono ?_; rintro e w3 ⟨rfl, h3⟩)
              exact ⟨⟨a + 2 * s, hb, by rw [Int.natCast_add, Int.natCast_mul]; rfl, by rw [Int.natCast_add, Int.natCast_mul]; rfl, h3⟩, by show n - ((a : Int) + 2 * (s : Int)).toNat < n - (a : Int).toNat; omega⟩
            · have g3 : ¬ (a : Int) + 2 * (s : Int) ≤ (n : Int) := by omega
              by_cases hm : a + s < n
              · have hc := c4 _ s a (a + s) hT (by omega) rfl hm (by omega)
                rw [Int.natCast_add] at hc
                have g4 : (a : Int) + (s : Int) < (n : Int) := by omega
                clear c3 c4 c5 hT
                go_wp2_with (go_at_call 53; refine hc.mono ?_; rintro e w3 ⟨rfl, h3⟩)
                exact ⟨⟨2 * s, by omega, by omega, by rw [Int.natCast_mul, Int.mul_comm]; rfl, h3⟩, by show n - ((s : Int) * 2).toNat < n - (s : Int).toNat; omega⟩
              · have h3 := c5 _ s a hT (by omega)
                have g4 : ¬ (a : Int) + (s : Int) < (n : Int) := by omega
                clear c3 c4 c5 hT
                go_wp2_with fail
                exact ⟨⟨2 * s, by omega, by omega, by rw [Int.natCast_mul, Int.mul_comm]; rfl, h3⟩, by show n - ((s : Int) * 2).toNat < n - (s : Int).toNat; omega⟩
        · have hF := c6 _ s hS (by omega)
          have g2 : ¬ (s : Int) < (n : Int) := by omega
          clear c3 c4 c5 c6 hS
          go_wp2_with fail
          go_end0
          exact ⟨rfl, hF⟩
set_option maxHeartbeats 1000000 in
set_option maxRecDepth 100000 in
theorem sort (B : World) (blk cap n g : Nat) (cb : Array Value) (d : Int → Int) (X : List Int) (hX : n = X.length) (hn : n ≤ 100000) (hin : ∀ y ∈ X, 0 ≤ y ∧ y < n) (w : World) (eg : ∀ args w, (callFunc g args).run Try.prog w = .ok (.enter g args) w) (hC : CmpIs B blk g cb d n) (hA : Arr B blk X w) :
    Calls Try.prog 46 #[.slice (some ⟨blk, 0, none⟩) n cap, .func (.func g) #[] cb] w fun e w' => e = .returned (.tuple #[]) ∧ Arr B blk (srt d X) w' := by
  have hS := stable B blk cap n g cb d X hX hn hin w eg hC hA
  clear hX hin hC hA
  go_enter Try.func46, Try.ntmps46
  go_wp2_with (go_at_call 50; refine hS.mono ?_; rintro e w1 ⟨rfl, h1⟩)
  go_end0
  exact ⟨rfl, h1⟩
end Go.Proofs.Ytlpidjenifbjeaa.Sw
