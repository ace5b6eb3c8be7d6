/- A stable merge of two lists, in plain words: it is associative, it may be cut where all ahead goes ahead, and to sort is to merge the sorted. -/
namespace Go.Proofs.PlaceSort

/-- The stable merge: of two equal ones the left one first. -/
def mrg (d : Int → Int) : List Int → List Int → List Int
  | [], t => t
  | x :: s, [] => x :: s
  | x :: s, y :: t => if d y < d x then y :: mrg d (x :: s) t else x :: mrg d s (y :: t)
termination_by s t => s.length + t.length
theorem mrg_nil (d : Int → Int) (t : List Int) : mrg d [] t = t := by rw [mrg]
theorem mrg_nil' (d : Int → Int) (s : List Int) : mrg d s [] = s := by cases s <;> rw [mrg]
theorem mrg_lt {d : Int → Int} {x y : Int} (s t : List Int) (h : d y < d x) : mrg d (x :: s) (y :: t) = y :: mrg d (x :: s) t := by rw [mrg, if_pos h]
theorem mrg_ge {d : Int → Int} {x y : Int} (s t : List Int) (h : ¬ d y < d x) : mrg d (x :: s) (y :: t) = x :: mrg d s (y :: t) := by rw [mrg, if_neg h]
theorem mrg_len (d : Int → Int) : ∀ (k : Nat) (s t : List Int), s.length + t.length = k → (mrg d s t).length = k
  | k, [], t, h => by rw [mrg_nil]; simpa using h
  | k, x :: s, [], h => by rw [mrg_nil']; simpa using h
  | 0, x :: s, y :: t, h => by simp at h
  | k + 1, x :: s, y :: t, h => by
    simp only [List.length_cons] at h
    by_cases c : d y < d x
    · rw [mrg_lt s t c, List.length_cons, mrg_len d k (x :: s) t (by simp only [List.length_cons]; omega)]
    · rw [mrg_ge s t c, List.length_cons, mrg_len d k s (y :: t) (by simp only [List.length_cons]; omega)]
theorem mrg_length (d : Int → Int) (s t : List Int) : (mrg d s t).length = s.length + t.length := mrg_len d _ s t rfl
theorem mem_mrg (d : Int → Int) (z : Int) : ∀ (k : Nat) (s t : List Int), s.length + t.length = k → (z ∈ mrg d s t ↔ z ∈ s ∨ z ∈ t)
  | k, [], t, _ => by rw [mrg_nil]; simp
  | k, x :: s, [], _ => by rw [mrg_nil']; simp
  | 0, x :: s, y :: t, h => by simp at h
  | k + 1, x :: s, y :: t, h => by
    simp only [List.length_cons] at h
    by_cases c : d y < d x
    · rw [mrg_lt s t c, List.mem_cons, mem_mrg d z k (x :: s) t (by simp only [List.length_cons]; omega), List.mem_cons (a := z) (b := y)]
      constructor
      · rintro (h | h | h)
        · exact Or.inr (Or.inl h)
        · exact Or.inl h
        · exact Or.inr (Or.inr h)
      · rintro (h | h | h)
        · exact Or.inr (Or.inl h)
        · exact Or.inl h
        · exact Or.inr (Or.inr h)
    · rw [mrg_ge s t c, List.mem_cons, mem_mrg d z k s (y :: t) (by simp only [List.length_cons]; omega), List.mem_cons (a := z) (b := x), or_assoc]
/-- The cut. -/
theorem mrg_cut (d : Int → Int) : ∀ (k : Nat) (A B C D : List Int), A.length + C.length = k → (∀ x ∈ A, ∀ y ∈ D, ¬ d y < d x) → (∀ x ∈ B, ∀ y ∈ C, d y < d x) → mrg d (A ++ B) (C ++ D) = mrg d A C ++ mrg d B D
  | k, [], B, [], D, _, _, _ => by rw [mrg_nil]; rfl
  | 0, [], _, _ :: _, _, h, _, _ => by simp at h
  | 0, _ :: _, _, _, _, h, _, _ => by simp at h
  | k + 1, [], [], y :: C, D, _, _, _ => by rw [List.nil_append, mrg_nil, mrg_nil, mrg_nil]
  | k + 1, [], x :: B, y :: C, D, h, h1, h2 => by
    have ih := mrg_cut d k [] (x :: B) C D (by simp at h ⊢; omega) (by simp) (fun x hx z hz => h2 x hx z (by simp [hz]))
    rw [List.nil_append] at ih ⊢
    rw [List.cons_append, mrg_lt _ _ (h2 x (by simp) y (by simp)), ih, mrg_nil, mrg_nil]; rfl
  | k + 1, x :: A, B, [], [], _, _, _ => by rw [List.nil_append, mrg_nil', mrg_nil', mrg_nil']
  | k + 1, x :: A, B, [], y :: D, h, h1, h2 => by
    have ih := mrg_cut d k A B [] (y :: D) (by simp at h ⊢; omega) (fun z hz w hw => h1 z (by simp [hz]) w hw) (by simp)
    rw [List.nil_append] at ih ⊢
    rw [List.cons_append, mrg_ge _ _ (h1 x (by simp) y (by simp)), ih, mrg_nil', mrg_nil']; rfl
  | k + 1, x :: A, B, y :: C, D, h, h1, h2 => by
    simp only [List.length_cons] at h
    by_cases c : d y < d x
    · have ih := mrg_cut d k (x :: A) B C D (by simp only [List.length_cons]; omega) h1 (fun z hz w hw => h2 z hz w (by simp [hw]))
      rw [mrg_lt A C c, List.cons_append, List.cons_append, mrg_lt _ _ c]
      rw [List.cons_append] at ih
      rw [ih]; rfl
    · have ih := mrg_cut d k A B (y :: C) D (by simp only [List.length_cons]; omega) (fun z hz w hw => h1 z (by simp [hz]) w hw) h2
      rw [mrg_ge A C c, List.cons_append, List.cons_append, mrg_ge _ _ c]
      rw [List.cons_append] at ih
      rw [ih]; rfl
/-- One on the left side; one on the right side. -/
theorem mrg_one (d : Int → Int) (x : Int) (t1 t2 : List Int) (h1 : ∀ y ∈ t1, d y < d x) (h2 : ∀ y ∈ t2, ¬ d y < d x) : mrg d [x] (t1 ++ t2) = t1 ++ x :: t2 := by
  have a := mrg_cut d _ [] [x] t1 t2 rfl (by simp) (by simpa using h1)
  have b := mrg_cut d _ [x] [] [] t2 rfl (by simpa using h2) (by simp)
  rw [List.nil_append, mrg_nil] at a
  rw [List.append_nil, List.nil_append, mrg_nil', mrg_nil] at b
  rw [a, b]; rfl
theorem mrg_last (d : Int → Int) (y : Int) (s1 s2 : List Int) (h1 : ∀ x ∈ s1, ¬ d y < d x) (h2 : ∀ x ∈ s2, d y < d x) : mrg d (s1 ++ s2) [y] = s1 ++ y :: s2 := by
  have a := mrg_cut d _ s1 s2 [] [y] rfl (by simpa using h1) (by simp)
  have b := mrg_cut d _ [] s2 [y] [] rfl (by simp) (by simpa using h2)
  rw [List.nil_append, mrg_nil'] at a
  rw [List.nil_append, List.append_nil, mrg_nil, mrg_nil'] at b
  rw [a, b]; rfl
theorem mrg_assoc (d : Int → Int) : ∀ (k : Nat) (s t u : List Int), s.length + t.length + u.length = k → mrg d (mrg d s t) u = mrg d s (mrg d t u)
  | _, [], t, u, _ => by rw [mrg_nil, mrg_nil]
  | _, x :: s, [], u, _ => by rw [mrg_nil', mrg_nil]
  | _, x :: s, y :: t, [], _ => by rw [mrg_nil', mrg_nil']
  | 0, _ :: _, _ :: _, _ :: _, h => by simp at h
  | k + 1, x :: s, y :: t, z :: u, h => by
    simp only [List.length_cons] at h
    have i1 := mrg_assoc d k s (y :: t) (z :: u) (by simp only [List.length_cons]; omega)
    have i2 := mrg_assoc d k (x :: s) t (z :: u) (by simp only [List.length_cons]; omega)
    have i3 := mrg_assoc d k (x :: s) (y :: t) u (by simp only [List.length_cons]; omega)
    by_cases c1 : d y < d x
    · by_cases c2 : d z < d y
      · rw [mrg_lt t u c2, mrg_lt s (mrg d (y :: t) u) (show d z < d x by omega), ← i3, mrg_lt s t c1, mrg_lt _ _ c2]
      · rw [mrg_ge t u c2, mrg_lt s (mrg d t (z :: u)) c1, ← i2, mrg_lt s t c1, mrg_ge _ _ c2]
    · by_cases c2 : d z < d y
      · by_cases c3 : d z < d x
        · rw [mrg_lt t u c2, mrg_lt s (mrg d (y :: t) u) c3, ← i3, mrg_ge s t c1, mrg_lt _ _ c3]
        · rw [mrg_ge s t c1, mrg_ge (mrg d s (y :: t)) u c3, i1, mrg_lt t u c2, mrg_ge s (mrg d (y :: t) u) c3]
      · rw [mrg_ge s t c1, mrg_ge (mrg d s (y :: t)) u (show ¬ d z < d x by omega), i1, mrg_ge t u c2, mrg_ge s (mrg d t (z :: u)) c1]

/-- Sorted: none behind is less. -/
def Up (d : Int → Int) : List Int → Prop
  | [] => True
  | x :: r => (∀ y ∈ r, ¬ d y < d x) ∧ Up d r
theorem up_app {d : Int → Int} : ∀ {a b : List Int}, Up d (a ++ b) ↔ Up d a ∧ Up d b ∧ ∀ x ∈ a, ∀ y ∈ b, ¬ d y < d x
  | [], b => by simp [Up]
  | x :: a, b => by
    rw [List.cons_append, Up, Up, up_app]
    constructor
    · rintro ⟨h1, h2, h3, h4⟩
      exact ⟨⟨fun y hy => h1 y (by simp [hy]), h2⟩, h3, fun z hz y hy => by
        rcases List.mem_cons.mp hz with rfl | hz
        · exact h1 y (by simp [hy])
        · exact h4 z hz y hy⟩
    · rintro ⟨⟨h1, h2⟩, h3, h4⟩
      exact ⟨fun y hy => by
        rcases List.mem_append.mp hy with hy | hy
        · exact h1 y hy
        · exact h4 x (by simp) y hy, h2, h3, fun z hz y hy => h4 z (by simp [hz]) y hy⟩
theorem up_mrg (d : Int → Int) : ∀ (k : Nat) (s t : List Int), s.length + t.length = k → Up d s → Up d t → Up d (mrg d s t)
  | _, [], t, _, _, h => by rw [mrg_nil]; exact h
  | _, x :: s, [], _, h, _ => by rw [mrg_nil']; exact h
  | 0, _ :: _, _ :: _, h, _, _ => by simp at h
  | k + 1, x :: s, y :: t, h, h1, h2 => by
    simp only [List.length_cons] at h
    by_cases c : d y < d x
    · rw [mrg_lt s t c]
      refine ⟨fun z hz => ?_, up_mrg d k (x :: s) t (by simp only [List.length_cons]; omega) h1 h2.2⟩
      rcases (mem_mrg d z _ (x :: s) t rfl).mp hz with hz | hz
      · rcases List.mem_cons.mp hz with rfl | hz
        · omega
        · have := h1.1 z hz; omega
      · exact h2.1 z hz
    · rw [mrg_ge s t c]
      refine ⟨fun z hz => ?_, up_mrg d k s (y :: t) (by simp only [List.length_cons]; omega) h1.2 h2⟩
      rcases (mem_mrg d z _ s (y :: t) rfl).mp hz with hz | hz
      · exact h1.1 z hz
      · rcases List.mem_cons.mp hz with rfl | hz
        · exact c
        · have := h2.1 z hz; omega
/-- The split that a search finds. -/
theorem mrg_split (d : Int → Int) (A B C D : List Int) (h1 : Up d (A ++ B)) (h2 : Up d (C ++ D))
    (hx : ∀ a x y D', A = a ++ [x] → D = y :: D' → ¬ d y < d x) (hy : ∀ c y x B', C = c ++ [y] → B = x :: B' → d y < d x) :
    mrg d (A ++ B) (C ++ D) = mrg d A C ++ mrg d B D := by
  obtain ⟨uA, uB, _⟩ := up_app.mp h1
  obtain ⟨uC, uD, _⟩ := up_app.mp h2
  refine mrg_cut d _ A B C D rfl (fun x hxA y hyD => ?_) (fun x hxB y hyC => ?_)
  · rcases List.eq_nil_or_concat A with rfl | ⟨a, z, rfl⟩
    · cases hxA
    · cases D with
      | nil => cases hyD
      | cons w D' =>
        have k := hx a z w D' (by simp) rfl
        rw [List.concat_eq_append] at uA hxA
        have u := up_app.mp uA
        have l1 : ¬ d z < d x := by
          rcases List.mem_append.mp hxA with hh | hh
          · exact u.2.2 x hh z (by simp)
          · rw [List.mem_singleton.mp hh]; omega
        have l2 : ¬ d y < d w := by
          rcases List.mem_cons.mp hyD with rfl | hh
          · omega
          · exact uD.1 y hh
        omega
  · rcases List.eq_nil_or_concat C with rfl | ⟨c, z, rfl⟩
    · cases hyC
    · cases B with
      | nil => cases hxB
      | cons w B' =>
        have k := hy c z w B' (by simp) rfl
        rw [List.concat_eq_append] at uC hyC
        have u := up_app.mp uC
        have l1 : ¬ d z < d y := by
          rcases List.mem_append.mp hyC with hh | hh
          · exact u.2.2 y hh z (by simp)
          · rw [List.mem_singleton.mp hh]; omega
        have l2 : ¬ d x < d w := by
          rcases List.mem_cons.mp hxB with rfl | hh
          · omega
          · exact uB.1 x hh
        omega
theorem snoc_ind {P : List Int → Prop} (h0 : P []) (h1 : ∀ l x, P l → P (l ++ [x])) (l : List Int) : P l := by
  have : ∀ r : List Int, P r.reverse := by
    intro r
    induction r with
    | nil => exact h0
    | cons x r ih => rw [List.reverse_cons]; exact h1 _ x ih
  have := this l.reverse
  rwa [List.reverse_reverse] at this
/-- To sort: one after the other put in, behind those that are not greater. -/
def srt (d : Int → Int) (l : List Int) : List Int := l.foldl (fun s x => mrg d s [x]) []
theorem srt_snoc (d : Int → Int) (l : List Int) (x : Int) : srt d (l ++ [x]) = mrg d (srt d l) [x] := by unfold srt; rw [List.foldl_append]; rfl
theorem foldl_mrg (d : Int → Int) : ∀ (Y s : List Int), Y.foldl (fun s x => mrg d s [x]) s = mrg d s (srt d Y) := by
  intro Y
  induction Y using snoc_ind with
  | h0 => intro s; unfold srt; rw [List.foldl_nil, List.foldl_nil, mrg_nil']
  | h1 Y y ih =>
    intro s
    rw [List.foldl_append, ih, srt_snoc, ← mrg_assoc d _ s (srt d Y) [y] rfl]; rfl
/-- Sorted parts, merged, are the whole sorted. -/
theorem srt_app (d : Int → Int) (X Y : List Int) : srt d (X ++ Y) = mrg d (srt d X) (srt d Y) := by
  have := foldl_mrg d Y (srt d X)
  unfold srt at this ⊢
  rw [List.foldl_append]; exact this
theorem srt_up (d : Int → Int) : ∀ l, Up d (srt d l) := by
  intro l
  induction l using snoc_ind with
  | h0 => trivial
  | h1 l x ih => rw [srt_snoc]; exact up_mrg d _ _ _ rfl ih ⟨by simp, trivial⟩
theorem srt_len (d : Int → Int) : ∀ l, (srt d l).length = l.length := by
  intro l
  induction l using snoc_ind with
  | h0 => rfl
  | h1 l x ih => rw [srt_snoc, mrg_length, ih, List.length_append]
theorem srt_mem (d : Int → Int) (z : Int) : ∀ l, z ∈ srt d l ↔ z ∈ l := by
  intro l
  induction l using snoc_ind with
  | h0 => simp [srt]
  | h1 l x ih => rw [srt_snoc, mem_mrg d z _ _ _ rfl, ih, List.mem_append]
end Go.Proofs.PlaceSort
