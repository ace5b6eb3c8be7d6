/- Sorting block by block, in plain words. -/
import Derived.Test.YtlpidjenifbjeaaSm
namespace Go.Proofs.PlaceSort

/-- X sorted in blocks of s, all of them full. -/
inductive Bf (d : Int → Int) (s : Nat) : List Int → List Int → Prop
  | nil : Bf d s [] []
  | snoc {X L Y : List Int} : Bf d s X L → Y.length = s → Bf d s (X ++ Y) (L ++ srt d Y)
/-- X sorted in blocks of s; the last one may be shorter. -/
inductive Bl (d : Int → Int) (s : Nat) : List Int → List Int → Prop
  | last {Y : List Int} : Y.length ≤ s → Bl d s Y (srt d Y)
  | cons {Y X L : List Int} : Y.length = s → Bl d s X L → Bl d s (Y ++ X) (srt d Y ++ L)
theorem Bf.app {d s} : ∀ {X L Y M}, Bf d s X L → Bl d s Y M → Bl d s (X ++ Y) (L ++ M) := by
  intro X L Y M h
  induction h generalizing Y M with
  | nil => intro h2; simpa using h2
  | snoc h1 hl ih => intro h2; rw [List.append_assoc, List.append_assoc]; exact ih (.cons hl h2)
theorem Bf.len {d s X L} (h : Bf d s X L) : L.length = X.length := by
  induction h with
  | nil => rfl
  | snoc h1 hl ih => rw [List.length_append, List.length_append, ih, srt_len]
theorem Bl.len {d s X L} (h : Bl d s X L) : L.length = X.length := by
  induction h with
  | last _ => exact srt_len _ _
  | cons _ _ ih => rw [List.length_append, List.length_append, ih, srt_len]
theorem Bl.all {d s X L} (h : Bl d s X L) (hs : X.length ≤ s) : L = srt d X := by
  cases h with
  | last _ => rfl
  | @cons Y Z M hl h2 =>
    have : Z = [] := List.length_eq_zero_iff.mp (by rw [List.length_append] at hs; omega)
    subst this
    have : M = [] := List.length_eq_zero_iff.mp h2.len
    subst this
    simp
/-- Two blocks or more: the first two. -/
theorem Bl.two {d s X L} (h : Bl d s X L) (hs : 0 < s) (h2 : 2 * s ≤ X.length) : ∃ Y Z X' L', X = Y ++ Z ++ X' ∧ L = srt d Y ++ srt d Z ++ L' ∧ Y.length = s ∧ Z.length = s ∧ Bl d s X' L' := by
  cases h with
  | last hl => omega
  | @cons Y X1 L1 hl h1 =>
    rw [List.length_append] at h2
    cases h1 with
    | last hl1 => exact ⟨Y, X1, [], [], by simp, by simp, hl, by omega, by
        have := Bl.last (d := d) (s := s) (Y := []) (by simp)
        simpa [srt] using this⟩
    | @cons Z X' L' hlz h3 => exact ⟨Y, Z, X', L', by simp, by simp, hl, hlz, h3⟩
/-- More than one, fewer than two. -/
theorem Bl.more {d s X L} (h : Bl d s X L) (h1 : s < X.length) (h2 : X.length < 2 * s) : ∃ Y Z, X = Y ++ Z ∧ L = srt d Y ++ srt d Z ∧ Y.length = s ∧ 1 ≤ Z.length ∧ Z.length ≤ s := by
  cases h with
  | last hl => omega
  | @cons Y X1 L1 hl h3 =>
    rw [List.length_append] at h1 h2
    refine ⟨Y, X1, rfl, ?_, hl, by omega, by omega⟩
    rw [h3.all (by omega)]
theorem Bl.mem {d s X L} (h : Bl d s X L) (z : Int) : z ∈ L ↔ z ∈ X := by
  induction h with
  | last _ => exact srt_mem _ _ _
  | cons _ _ ih => rw [List.mem_append, List.mem_append, ih, srt_mem]
theorem Bf.mem {d s X L} (h : Bf d s X L) (z : Int) : z ∈ L ↔ z ∈ X := by
  induction h with
  | nil => rfl
  | snoc _ _ ih => rw [List.mem_append, List.mem_append, ih, srt_mem]
theorem srt_one (d : Int → Int) (x : Int) : srt d [x] = [x] := by unfold srt; rw [List.foldl_cons, List.foldl_nil, mrg_nil]
end Go.Proofs.PlaceSort
