/- Runs and what is in them: plain Lean. -/
import Derived.Test.YtbbncdbihiipcaaDoorOf
namespace Go.Proofs.YtbbncdbihiipcaaDoor.Ru
open Go.Proofs.YtbbncdbihiipcaaDoor.It

/-- Runs, each behind the one ahead and not at its end, below N. -/
def Good (last N : Int) : List (Int × Int) → Prop
  | [] => True
  | x :: r => last < x.1 ∧ x.1 < x.2 ∧ x.2 ≤ N ∧ Good x.2 N r
def endOf (last : Int) : List (Int × Int) → Int
  | [] => last
  | x :: r => endOf x.2 r
def mem (l : List (Int × Int)) (i : Int) : Bool := l.any fun x => decide (x.1 ≤ i) && decide (i < x.2)
theorem mem_nil (i : Int) : mem [] i = false := rfl
theorem mem_cons (x : Int × Int) (r : List (Int × Int)) (i : Int) : mem (x :: r) i = ((decide (x.1 ≤ i) && decide (i < x.2)) || mem r i) := by simp [mem]
theorem mem_append (a b : List (Int × Int)) (i : Int) : mem (a ++ b) i = (mem a i || mem b i) := by simp [mem]
theorem good_append (N : Int) : ∀ (a b : List (Int × Int)) (last : Int), Good last N (a ++ b) ↔ Good last N a ∧ Good (endOf last a) N b
  | [], b, last => by simp [Good, endOf]
  | x :: a, b, last => by
    simp only [List.cons_append, Good, endOf]
    rw [good_append N a b]
    constructor
    · rintro ⟨h1, h2, h3, h4, h5⟩; exact ⟨⟨h1, h2, h3, h4⟩, h5⟩
    · rintro ⟨⟨h1, h2, h3, h4⟩, h5⟩; exact ⟨h1, h2, h3, h4, h5⟩
theorem endOf_append : ∀ (a : List (Int × Int)) (x : Int × Int) (last : Int), endOf last (a ++ [x]) = x.2
  | [], _, _ => rfl
  | _ :: a, x, _ => by simp only [List.cons_append, endOf]; exact endOf_append a x _
theorem mem_low (N : Int) : ∀ (l : List (Int × Int)) (last i : Int), Good last N l → i ≤ last → mem l i = false
  | [], _, _, _, _ => rfl
  | x :: r, last, i, h, hi => by
    rw [mem_cons, mem_low N r x.2 i h.2.2.2 (by have := h.1; have := h.2.1; omega), decide_eq_false (by have := h.1; omega)]
    rfl
theorem mem_high (N : Int) : ∀ (l : List (Int × Int)) (last i : Int), Good last N l → N ≤ i → mem l i = false
  | [], _, _, _, _ => rfl
  | x :: r, last, i, h, hi => by
    have := h.2.2.1
    rw [mem_cons, mem_high N r x.2 i h.2.2.2 hi, decide_eq_false (p := i < x.2) (by omega)]
    simp
theorem good_mono {N last last' : Int} (h : last' ≤ last) : ∀ {l : List (Int × Int)}, Good last N l → Good last' N l
  | [], _ => trivial
  | _ :: _, g => ⟨Int.lt_of_le_of_lt h g.1, g.2⟩
/-- Runs are what they hold. -/
theorem runsFrom_is (p : Nat → Bool) (N : Nat) : ∀ (k lo : Nat) (l : List (Int × Int)), N ≤ lo + k → Good ((lo : Int) - 1) N l → (∀ i : Nat, lo ≤ i → i < N → p i = mem l i) → runsFrom p N k lo = l
  | 0, lo, l, hk, hg, hm => by
    cases l with
    | nil => rfl
    | cons x r =>
      have h1 := hg.1
      have h2 := hg.2.1
      have h3 := hg.2.2.1
      omega
  | k + 1, lo, l, hk, hg, hm => by
    rw [runsFrom]
    by_cases hlt : lo < N
    · rw [if_pos hlt]
      have hp0 : ∀ (l' : List (Int × Int)), Good (lo : Int) N l' → l' = l → runEnd p N (N - lo) lo = lo ∧ runsFrom p N k (lo + 1) = l' := by
        intro l' hg' he
        subst he
        have hlo : p lo = false := by rw [hm lo (Nat.le_refl _) hlt]; exact mem_low N l' lo lo hg' (Int.le_refl _)
        refine ⟨runEnd_is p N _ _ _ (by omega) (Nat.le_refl _) (by omega) (fun j h1 h2 => by omega) (fun _ => hlo), ?_⟩
        exact runsFrom_is p N k (lo + 1) l' (by omega) (good_mono (by omega) hg') (fun i h1 h2 => hm i (by omega) h2)
      cases l with
      | nil =>
        obtain ⟨h1, h2⟩ := hp0 [] trivial rfl
        rw [h1, if_neg (by omega), Nat.max_eq_right (by omega), h2]; rfl
      | cons x r =>
        obtain ⟨a, b⟩ := x
        have g1 := hg.1
        have g2 := hg.2.1
        have g3 := hg.2.2.1
        have g4 := hg.2.2.2
        simp only at g1 g2 g3 g4
        obtain ⟨A, rfl⟩ := Int.eq_ofNat_of_zero_le (show 0 ≤ a by omega)
        obtain ⟨B, rfl⟩ := Int.eq_ofNat_of_zero_le (show 0 ≤ b by omega)
        by_cases he : A = lo
        · subst he
          have hin : ∀ j : Nat, A ≤ j → j < B → p j = true := by
            intro j h1 h2
            rw [hm j h1 (by omega), mem_cons, decide_eq_true (p := (A : Int) ≤ j) (by omega), decide_eq_true (p := (j : Int) < B) (by omega)]; rfl
          have hout : B < N → p B = false := by
            intro h1
            rw [hm B (by omega) h1, mem_cons, mem_low N r B B g4 (Int.le_refl _), decide_eq_false (p := (B : Int) < B) (by omega)]; simp
          rw [runEnd_is p N (N - A) A B (by omega) (by omega) (by omega) hin hout, if_pos (by omega), Nat.max_eq_left (by omega)]
          rw [runsFrom_is p N k B r (by omega) (good_mono (by omega) g4) ?_]
          · rfl
          · intro i h1 h2
            rw [hm i (by omega) h2, mem_cons, decide_eq_false (p := (i : Int) < B) (by omega)]; simp
        · obtain ⟨h1, h2⟩ := hp0 _ (show Good (lo : Int) N (((A : Int), (B : Int)) :: r) from ⟨show (lo : Int) < A by omega, g2, g3, g4⟩) rfl
          rw [h1, if_neg (by omega), Nat.max_eq_right (by omega), h2]; rfl
    · rw [if_neg hlt]
      cases l with
      | nil => rfl
      | cons x r =>
        have h1 := hg.1
        have h2 := hg.2.1
        have h3 := hg.2.2.1
        omega
/-- There are runs that hold just this. -/
theorem exists_good (p : Nat → Bool) (N : Nat) : ∀ (d lo : Nat), lo + d = N → ∃ l, Good ((lo : Int) - 1) N l ∧ ∀ i : Nat, lo ≤ i → i < N → mem l i = p i
  | 0, lo, h => ⟨[], trivial, fun i h1 h2 => by omega⟩
  | d + 1, lo, h => by
    obtain ⟨l, hg, hm⟩ := exists_good p N d (lo + 1) (by omega)
    rw [show (((lo + 1 : Nat) : Int) - 1) = lo by omega] at hg
    cases hp : p lo with
    | false =>
      refine ⟨l, good_mono (by omega) hg, fun i h1 h2 => ?_⟩
      by_cases he : i = lo
      · subst he; rw [hp]; exact mem_low N l i i hg (Int.le_refl _)
      · exact hm i (by omega) h2
    | true =>
      cases l with
      | nil =>
        refine ⟨[((lo : Int), (lo : Int) + 1)], ⟨by show (lo : Int) - 1 < lo; omega, by show (lo : Int) < lo + 1; omega, by show (lo : Int) + 1 ≤ N; omega, trivial⟩, fun i h1 h2 => ?_⟩
        rw [mem_cons, mem_nil]
        by_cases he : i = lo
        · subst he; rw [hp]; simp; omega
        · rw [← hm i (by omega) h2, mem_nil, decide_eq_false (p := (i : Int) < (lo : Int) + 1) (by omega)]; simp
      | cons x r =>
        obtain ⟨a, b⟩ := x
        have g1 := hg.1
        have g2 := hg.2.1
        have g3 := hg.2.2.1
        have g4 := hg.2.2.2
        simp only at g1 g2 g3 g4
        by_cases ha : a = (lo : Int) + 1
        · refine ⟨((lo : Int), b) :: r, ⟨by show (lo : Int) - 1 < lo; omega, by show (lo : Int) < b; omega, g3, g4⟩, fun i h1 h2 => ?_⟩
          rw [mem_cons]
          by_cases he : i = lo
          · subst he; rw [hp, decide_eq_true (p := ((i : Nat) : Int) ≤ i) (by omega), decide_eq_true (p := (i : Int) < b) (by omega)]; rfl
          · have := hm i (by omega) h2
            rw [mem_cons] at this
            rw [← this, decide_eq_true (p := (lo : Int) ≤ i) (by omega), decide_eq_true (p := a ≤ (i : Int)) (by omega)]
        · refine ⟨((lo : Int), (lo : Int) + 1) :: (a, b) :: r, ⟨by show (lo : Int) - 1 < lo; omega, by show (lo : Int) < lo + 1; omega, by show (lo : Int) + 1 ≤ N; omega, by show (lo : Int) + 1 < a; omega, g2, g3, g4⟩, fun i h1 h2 => ?_⟩
          rw [mem_cons]
          by_cases he : i = lo
          · subst he; rw [hp, decide_eq_true (p := ((i : Nat) : Int) ≤ i) (by omega), decide_eq_true (p := (i : Int) < (i : Int) + 1) (by omega)]; rfl
          · rw [← hm i (by omega) h2, decide_eq_false (p := (i : Int) < (lo : Int) + 1) (by omega)]; simp
/-- The runs of what is in. -/
def runsOf (p : Nat → Bool) (N : Nat) : List (Int × Int) := runsFrom p N N 0
theorem runsOf_is (p : Nat → Bool) (N : Nat) (l : List (Int × Int)) (hg : Good (-1) N l) (hm : ∀ i : Nat, i < N → p i = mem l i) : runsOf p N = l :=
  runsFrom_is p N N 0 l (by omega) (by simpa using hg) (fun i _ h => hm i h)
theorem runsOf_good (p : Nat → Bool) (N : Nat) : Good (-1) N (runsOf p N) ∧ ∀ i : Nat, i < N → mem (runsOf p N) i = p i := by
  obtain ⟨l, hg, hm⟩ := exists_good p N N 0 (by omega)
  rw [runsOf_is p N l (by simpa using hg) (fun i h => (hm i (by omega) h).symm)]
  exact ⟨by simpa using hg, fun i h => hm i (by omega) h⟩
/-- All numbers in a list of runs. -/
def span (lo : Int) : Nat → List Int
  | 0 => []
  | d + 1 => lo :: span (lo + 1) d
def nums : List (Int × Int) → List Int
  | [] => []
  | x :: r => span x.1 (x.2 - x.1).toNat ++ nums r
theorem mem_span : ∀ (d : Nat) (lo i : Int), i ∈ span lo d ↔ lo ≤ i ∧ i < lo + d
  | 0, lo, i => by
    rw [span, Int.natCast_zero, Int.add_zero]
    exact ⟨fun h => (by cases h), fun h => (by omega)⟩
  | d + 1, lo, i => by
    rw [span, List.mem_cons, mem_span d]
    omega
theorem span_len : ∀ (d : Nat) (lo : Int), (span lo d).length = d
  | 0, _ => rfl
  | d + 1, lo => by simp [span, span_len d]
theorem span_snoc : ∀ (d : Nat) (lo : Int), span lo (d + 1) = span lo d ++ [lo + d]
  | 0, lo => by simp [span]
  | d + 1, lo => by
    rw [span, span_snoc d (lo + 1), span, List.cons_append]
    congr 3
    omega
theorem mem_nums : ∀ (l : List (Int × Int)) (i : Int), i ∈ nums l ↔ mem l i = true
  | [], i => by simp [nums, mem_nil]
  | x :: r, i => by
    rw [nums, List.mem_append, mem_span, mem_nums r i, mem_cons, Bool.or_eq_true, Bool.and_eq_true, decide_eq_true_iff, decide_eq_true_iff]
    constructor
    · rintro (h | h)
      · exact Or.inl (by omega)
      · exact Or.inr h
    · rintro (h | h)
      · exact Or.inl (by omega)
      · exact Or.inr h
theorem good_len (N : Int) : ∀ (l : List (Int × Int)) (last : Int), Good last N l → last ≤ N → (l.length : Int) ≤ N - last
  | [], last, _, h => by simp; omega
  | x :: r, last, g, h => by
    have h1 := g.1
    have h2 := g.2.1
    have h3 := g.2.2.1
    have := good_len N r x.2 g.2.2.2 h3
    simp only [List.length_cons]
    omega
theorem nums_len (N : Int) : ∀ (l : List (Int × Int)) (last : Int), Good last N l → last ≤ N → ((nums l).length : Int) ≤ N - last
  | [], last, _, h => by simp [nums]; omega
  | x :: r, last, g, h => by
    have h1 := g.1
    have h2 := g.2.1
    have h3 := g.2.2.1
    have := nums_len N r x.2 g.2.2.2 h3
    rw [nums, List.length_append, span_len]
    omega
theorem mem_past_aux (N : Int) : ∀ (l : List (Int × Int)) (last : Int), Good last N l → last ≤ endOf last l
  | [], last, _ => Int.le_refl _
  | x :: r, last, g => by
    have h1 := g.1
    have h2 := g.2.1
    have := mem_past_aux N r x.2 g.2.2.2
    show last ≤ endOf x.2 r
    omega
theorem mem_past (N : Int) : ∀ (l : List (Int × Int)) (last i : Int), Good last N l → endOf last l ≤ i → mem l i = false
  | [], _, _, _, _ => rfl
  | x :: r, last, i, g, h => by
    have h1 := (mem_past_aux N r x.2 g.2.2.2)
    have h2 : endOf x.2 r ≤ i := h
    rw [mem_cons, mem_past N r x.2 i g.2.2.2 h2, decide_eq_false (p := i < x.2) (by omega)]
    simp
theorem end_le (N : Int) : ∀ (l : List (Int × Int)) (last : Int), Good last N l → last ≤ N → endOf last l ≤ N ∧ last ≤ endOf last l
  | [], last, _, h => ⟨h, Int.le_refl _⟩
  | x :: r, last, g, h => by
    have h1 := g.1
    have h2 := g.2.1
    have h3 := g.2.2.1
    have := end_le N r x.2 g.2.2.2 h3
    exact ⟨this.1, by show last ≤ endOf x.2 r; omega⟩
end Go.Proofs.YtbbncdbihiipcaaDoor.Ru
