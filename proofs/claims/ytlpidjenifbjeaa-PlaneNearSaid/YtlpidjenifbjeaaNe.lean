/- plane.Near: walked; what it answers in plain words. -/
import Derived.Test.YtlpidjenifbjeaaPx0
import Derived.Test.YtlpidjenifbjeaaPx2
import Derived.Test.YtlpidjenifbjeaaPl
import Derived.Test.YtlpidjenifbjeaaSt
namespace Go.Proofs.Ytlpidjenifbjeaa.Hand
open Go.RowKit Go.Proofs.Ytlpidjenifbjeaa.P Go.Proofs.YtlpidjenifbjeaaW.PrintWords Go.Proofs.Ytlpidjenifbjeaa.Pl Go.Proofs.Ytlpidjenifbjeaa.Sw Go.Proofs.PlaceSort

def okS (x : S23) : Bool := okB x.f0 x.f1
/-- One of them may not be. -/
def bad (l : List S23) : Bool := l.any (fun x => !okS x)
/-- How far the places of a list are. -/
def dst (a : Int × Int) (l : List S23) (i : Int) : Int := distP a.1 a.2 (rd_T23 l i).f0 (rd_T23 l i).f1
/-- Numbers from i on. -/
def from_ (i : Nat) : Nat → List Int
  | 0 => []
  | m + 1 => (i : Int) :: from_ (i + 1) m
theorem from_len (m : Nat) : ∀ i, (from_ i m).length = m := by
  induction m with
  | zero => intro i; rfl
  | succ m ih => intro i; simp [from_, ih]
theorem from_get (m : Nat) : ∀ (i j : Nat), j < m → (from_ i m)[j]? = some ((i + j : Nat) : Int) := by
  induction m with
  | zero => intro i j h; omega
  | succ m ih =>
    intro i j h
    cases j with
    | zero => rfl
    | succ j =>
      rw [from_, List.getElem?_cons_succ, ih (i + 1) j (by omega)]
      congr 2; omega
theorem from_snoc (m : Nat) : from_ 0 (m + 1) = from_ 0 m ++ [(m : Int)] := by
  apply List.ext_getElem?
  intro j
  rcases Nat.lt_or_ge j m with h | h
  · rw [List.getElem?_append_left (by rw [from_len]; exact h), from_get _ _ _ h, from_get _ _ _ (by omega)]
  · rw [List.getElem?_append_right (by rw [from_len]; exact h), from_len]
    by_cases e : j = m
    · subst e; rw [Nat.sub_self, from_get _ _ _ (by omega)]; simp
    · rw [List.getElem?_eq_none (by rw [from_len]; omega), List.getElem?_eq_none (by simp; omega)]
theorem from_in (m : Nat) : ∀ y ∈ from_ 0 m, 0 ≤ y ∧ y < m := by
  intro y hy
  obtain ⟨j, hj⟩ := List.mem_iff_getElem?.mp hy
  have hl := (List.getElem?_eq_some_iff.mp hj).1
  rw [from_len] at hl
  rw [from_get _ _ _ hl] at hj
  have := Option.some.inj hj
  omega
set_option maxRecDepth 100000 in
theorem lit1 (x : S23) (w : World) : Calls Try.prog 45 #[.agg #[.int .i64 x.f0, .int .i64 x.f1]] w fun e w' => e = .returned (.bool !(okS x)) ∧ Below w.heap.size w w' := by
  have hI := fun w => plane_Check.calls x.f0 x.f1 (okS x) w (check_eq x.f0 x.f1)
  have hB1 : Below w.heap.size w (w.alloc (.cells #[.int .i64 x.f0, .int .i64 x.f1] 23)) := (Below.refl _ w).alloc (Nat.le_refl _) _
  generalize okS x = r at *
  obtain ⟨x0, x1⟩ := x
  simp only at hI hB1
  go_enter Try.func45, Try.ntmps45
  go_wp2_with (go_at_call 17; refine (hI _).mono ?_; rintro e w1 ⟨rfl, hd⟩)
  go_ret
  exact ⟨rfl, hB1.trans (hd.mono hB1.size)⟩
theorem bad_iff (l : List S23) : bad l = true ↔ ∃ x ∈ l, okS x = false := by unfold bad; rw [List.any_eq_true]; simp
theorem rd_at (l : List S23) (k : Nat) (h : k < l.length) : rd_T23 l (k : Int) = l[k] := by unfold rd_T23; rw [Int.toNat_natCast, List.getD_eq_getElem?_getD, List.getElem?_eq_getElem h]; rfl
set_option maxHeartbeats 1000000 in
set_option maxRecDepth 100000 in
theorem indexFunc (A : Option Addr) (c : Nat) (l : List S23) (w : World) (h : Kd.C k23 w A l.length l) (hl : l.length ≤ 100000) :
    Calls Try.prog 49 #[.slice A l.length c, .func (.func 45) #[] #[]] w fun e w' => ∃ r : Int, e = .returned (.int .i64 r) ∧ decide (0 ≤ r) = bad l ∧ Below w.heap.size w w' := by
  have HC := Sw.Aside.mk h
  clear h
  go_enter Try.func49, Try.ntmps49
  go_wp2
  go_loopw [8] (fun iv wr => ∃ k : Nat, k ≤ l.length ∧ iv = .int .i64 k ∧ Sw.Aside (∀ j, j < k → okS (rd_T23 l (j : Int)) = true) ∧ Below w.heap.size w wr) (fun iv _ => l.length - (Sw.intOf iv).toNat)
  case atStart => exact ⟨0, by omega, rfl, ⟨fun j hj => by omega⟩, Below.refl _ w⟩
  case round =>
    obtain ⟨k, hk, rfl, hK, hB⟩ := hrel
    by_cases hlt : k < l.length
    · obtain ⟨ad, rfl, c0, c1⟩ := at_T23 HC.out (k : Int) (by omega) (by omega)
      replace c0 := (hB.cell (World.block_lt_of_cell? w _ c0)).trans c0
      replace c1 := (hB.cell (World.block_lt_of_cell? w _ c1)).trans c1
      rw [Int.toNat_natCast] at c0 c1
      have hL := fun w => lit1 (rd_T23 l (k : Int)) w
      have hmem : rd_T23 l (k : Int) ∈ l := by rw [rd_at l k hlt]; exact List.getElem_mem hlt
      have HM := Sw.Aside.mk hmem
      obtain ⟨x, hx⟩ : ∃ x, x = rd_T23 l (k : Int) := ⟨_, rfl⟩
      rw [← hx] at c0 c1 hL
      have HX := Sw.Aside.mk hx
      clear hx hmem
      obtain ⟨x0, x1⟩ := x
      simp only at c0 c1 hL
      cases hok : okS ⟨x0, x1⟩ with
      | true =>
        rw [hok] at hL
        go_wp2_with (go_at_call 45; refine (hL _).mono ?_; rintro e w1 ⟨rfl, hb1⟩)
        refine ⟨⟨k + 1, by omega, by rw [Int.natCast_add]; rfl, ⟨fun j hj => ?_⟩, hB.trans (hb1.mono hB.size)⟩, ?_⟩
        · rcases Nat.lt_or_ge j k with h | h
          · exact hK.out j h
          · obtain rfl : j = k := by omega
            rw [← HX.out]; exact hok
        · show l.length - ((k : Int) + 1).toNat < l.length - (k : Int).toNat
          omega
      | false =>
        rw [hok] at hL
        have hbad : Sw.Aside (bad l = true) := ⟨(bad_iff l).mpr ⟨_, HM.out, by rw [← HX.out]; exact hok⟩⟩
        go_wp2_with (go_at_call 45; refine (hL _).mono ?_; rintro e w1 ⟨rfl, hb1⟩)
        go_ret
        exact ⟨_, rfl, by rw [hbad.out]; simp, hB.trans (hb1.mono hB.size)⟩
    · have hgood : Sw.Aside (bad l = false) := ⟨by
        cases hb : bad l with
        | false => rfl
        | true =>
          obtain ⟨x, hx, hx2⟩ := (bad_iff l).mp hb
          obtain ⟨j, hj⟩ := List.mem_iff_getElem?.mp hx
          obtain ⟨hjl, rfl⟩ := List.getElem?_eq_some_iff.mp hj
          have := hK.out j (by omega)
          rw [rd_at l j hjl, hx2] at this
          cases this⟩
      go_wp2_with fail
      go_ret
      exact ⟨_, rfl, by rw [hgood.out]; rfl, hB⟩
set_option maxRecDepth 100000 in
theorem containsFunc (A : Option Addr) (c : Nat) (l : List S23) (w : World) (h : Kd.C k23 w A l.length l) (hl : l.length ≤ 100000) :
    Calls Try.prog 44 #[.slice A l.length c, .func (.func 45) #[] #[]] w fun e w' => e = .returned (.bool (bad l)) ∧ Below w.heap.size w w' := by
  have hI := indexFunc A c l w h hl
  clear h
  go_enter Try.func44, Try.ntmps44
  go_wp2_with (go_at_call 49; refine hI.mono ?_; rintro e w1 ⟨r, rfl, hr, hb1⟩)
  go_ret
  exact ⟨by rw [← hr]; rfl, hb1⟩
/-- A later world in which all that lay before lies as it did. -/
structure BelowW (w : World) where
  world : World
  is : Below w.heap.size w world
instance (w : World) : Inhabited (BelowW w) := ⟨⟨w, Below.refl _ _⟩⟩
theorem BelowW.cell {w : World} {a : Addr} {v : Value} (h : w.cell? a = some v) (p : BelowW w) : p.world.cell? a = some v := (p.is.cell (World.block_lt_of_cell? _ _ h)).trans h
/-- A drawn region whose operations read and whose callees read, and lay blocks of their own, walked in the order of the text. -/
theorem wp_region_below {P : Program} {id : Nat} {Q : Exit → Act → World → Prop} {a : Act} {w : World} {l : List Oper} (hm : P.follows .mixedOrders = true) (hB : Region.lexB .any l.toArray = true)
    (h : wpQuiet P l.toArray (fun w' => ∃ p : BelowW w, w' = p.world) (fun a' => ∀ w', (∃ p : BelowW w, w' = p.world) → Q .normal a' w') l a) : (Code.region id l.toArray true).wp P Q a w :=
  wp_region_quiet (C := fun w' => ∃ p : BelowW w, w' = p.world) hm hB ⟨⟨{ w with drawn := w.drawn + 1 }, ⟨rfl, rfl, rfl, Nat.le_refl _, fun _ _ => rfl⟩⟩, rfl⟩ (by simpa using h)
theorem calls_below {P : Program} {f : FuncId} {args : Array Value} {w : World} {p : BelowW w} {v : Value}
    (h : Calls P f args p.world fun e w' => e = .returned v ∧ Below p.world.heap.size p.world w') : Calls P f args p.world fun e w'' => e = .returned v ∧ ∃ q : BelowW w, w'' = q.world :=
  h.mono fun _ w' ⟨he, hb⟩ => ⟨he, ⟨w', p.is.trans (hb.mono p.is.size)⟩, rfl⟩
set_option maxHeartbeats 1000000 in
set_option maxRecDepth 100000 in
/-- The closure that compares. -/
theorem lit2 (A : Option Addr) (c ba bl : Nat) (a : Int × Int) (l : List S23) (i k : Nat) (w : World) (h : Kd.C k23 w A l.length l) (ha0 : w.cell? ⟨ba, 0, none⟩ = some (.int .i64 a.1)) (ha1 : w.cell? ⟨ba, 1, none⟩ = some (.int .i64 a.2)) (hl : w.cell? ⟨bl, 0, none⟩ = some (.slice A l.length c)) (hi : i < l.length) (hk : k < l.length) :
    Calls Try.prog 47 #[.int .i64 i, .int .i64 k, .pointer (some ⟨ba, 0, none⟩), .pointer (some ⟨bl, 0, none⟩)] w fun e w' => e = .returned (.int .i64 (Sw.cmpI (dst a l i) (dst a l k))) ∧ Below w.heap.size w w' := by
  obtain ⟨ad, rfl, c0, c1⟩ := at_T23 h (i : Int) (by omega) (by omega)
  obtain ⟨ad', e', c2, c3⟩ := at_T23 h (k : Int) (by omega) (by omega)
  cases e'
  rw [Int.toNat_natCast] at c0 c1 c2 c3
  unfold dst
  generalize rd_T23 l (i : Int) = x at *
  generalize rd_T23 l (k : Int) = y at *
  have hd1 := fun w => plane_Dist.calls a.1 a.2 x.f0 x.f1 _ w (dist_eq a.1 a.2 x.f0 x.f1)
  have hd2 := fun w => plane_Dist.calls a.1 a.2 y.f0 y.f1 _ w (dist_eq a.1 a.2 y.f0 y.f1)
  generalize distP a.1 a.2 x.f0 x.f1 = D1 at *
  generalize distP a.1 a.2 y.f0 y.f1 = D2 at *
  have hcp := fun w => cmp_Compare_int.calls D1 D2 _ w (compare_eq D1 D2)
  generalize Sw.cmpI D1 D2 = R at *
  obtain ⟨x0, x1⟩ := x
  obtain ⟨y0, y1⟩ := y
  obtain ⟨p0, p1⟩ := a
  simp only at c0 c1 c2 c3 ha0 ha1 hd1 hd2
  have hiz : (i : Int) < (l.length : Int) := by omega
  have hkz : (k : Int) < (l.length : Int) := by omega
  have f0 := BelowW.cell c0
  have f1 := BelowW.cell c1
  have f2 := BelowW.cell c2
  have f3 := BelowW.cell c3
  have f4 := BelowW.cell ha0
  have f5 := BelowW.cell ha1
  have f6 := BelowW.cell hl
  clear h c0 c1 c2 c3 ha0 ha1 hl
  go_enter Try.func47, Try.ntmps47
  go_wp2_with fail
  refine wp_region_below (by kernel_rfl) (by kernel_rfl) ?_
  iterate 5 (quiet_step (fail))
  quiet_step (exact calls_below (hd1 _))
  iterate 5 (quiet_step (fail))
  quiet_step (exact calls_below (hd2 _))
  quiet_step (exact calls_below ((hcp _).mono (fun _ _ h => ⟨h.1, h.2.below⟩)))
  quiet_step (fail)
  refine wpQuiet_nil ?_
  intro _ hw'
  obtain ⟨pq, hw''⟩ := hw'
  subst hw''
  go_wp2
  go_ret
  exact ⟨rfl, pq.is⟩
end Go.Proofs.Ytlpidjenifbjeaa.Hand
