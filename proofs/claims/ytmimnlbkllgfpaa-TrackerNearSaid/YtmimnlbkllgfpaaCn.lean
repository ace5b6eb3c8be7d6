/- A table with one note: what counts. -/
import Derived.Test.YtmimnlbkllgfpaaAk
import Derived.Test.YtmimnlbkllgfpaaWEqStruct
namespace Go.Proofs.Ytmimnlbkllgfpaa.Tb
open Go.RowKit Go.Maps Go.Proofs.Ytmimnlbkllgfpaa.A Go.Proofs.YtmimnlbkllgfpaaW.PrintWords

theorem cntL_one (k : Nat) (y : Nt) (now : Int) : ∀ m, cntL (fun j => if j = k then some y else none) now m = if k < m ∧ now ≤ y.f3 then [y] else []
  | 0 => by rw [if_neg (by omega)]; rfl
  | m + 1 => by
    rw [cntL, cntL_one k y now m]
    by_cases h : m = k
    · subst h
      rw [if_neg (by omega)]
      simp only [if_true, List.nil_append]
      by_cases c : now ≤ y.f3
      · rw [if_pos c, if_pos ⟨by omega, c⟩]
      · rw [if_neg c, if_neg (fun hh => c hh.2)]
    · simp only [if_neg h, List.append_nil]
      by_cases c : k < m ∧ now ≤ y.f3
      · rw [if_pos c, if_pos ⟨by omega, c.2⟩]
      · rw [if_neg c, if_neg (fun hh => c ⟨by omega, hh.2⟩)]
/-- One note alone. -/
def oneT (y : Nt) : TT := putT y noT
theorem oneT_at (y : Nt) (k : Nat) (hk : y.f1 = (k : Int)) : oneT y (nameS y) = fun j => if j = k then some y else none := by
  funext j
  unfold oneT putT
  by_cases h : j = k
  · subst h; rw [if_pos ⟨rfl, hk.symm⟩, if_pos rfl]
  · rw [if_neg (fun hh => h (by have := hh.2; omega)), if_neg h]; rfl
theorem oneT_other (y : Nt) (s : List UInt8) (h : s ≠ nameS y) (j : Nat) : oneT y s j = none := by
  unfold oneT putT; rw [if_neg (fun hh => h hh.1)]; rfl
theorem oneT_nodes (y : Nt) (now : Int) (hy : 1 ≤ y.f1 ∧ y.f1 ≤ 15) : nodesL (oneT y) (nameS y) now = if tickB now = true ∧ now ≤ y.f3 then [y] else [] := by
  obtain ⟨k, hk⟩ : ∃ k : Nat, y.f1 = (k : Int) := ⟨y.f1.toNat, by omega⟩
  unfold nodesL
  rw [oneT_at y k hk, cntL_one]
  by_cases c : tickB now = true
  · rw [if_pos c]
    by_cases c2 : now ≤ y.f3
    · rw [if_pos ⟨by omega, c2⟩, if_pos ⟨c, c2⟩]
    · rw [if_neg (fun h => c2 h.2), if_neg (fun h => c2 h.2)]
  · rw [if_neg c, if_neg (fun h => c h.1)]
theorem swp_noT (now : Int) : (fun s j => swp now (noT s j)) = noT := by funext s j; rfl
/-- Another note of the same name and node takes its place. -/
theorem put_again (a y : Nt) (now : Int) (hn : nameS a = nameS y) (h1 : a.f1 = y.f1) : putT y (fun s j => swp now (oneT a s j)) = oneT y := by
  funext s j
  unfold oneT
  by_cases h : s = nameS y ∧ (j : Int) = y.f1
  · unfold putT; rw [if_pos h, if_pos h]
  · unfold putT
    rw [if_neg h, if_neg h]
    show swp now (if s = nameS a ∧ (j : Int) = a.f1 then some a else noT s j) = noT s j
    rw [if_neg (fun hh => h ⟨hh.1.trans hn, hh.2.trans h1⟩)]; rfl
/-- The empty table, its header's block elsewhere. -/
theorem Tab.empty_set {W : World} {lo t bm n nb j : Nat} {room : Int} {cur : Array Value} (h : Tab W lo t bm n room (.map []) noT) (hb : W.heap[nb]? = some (.cells cur 25 (0, 0))) (v : Value) : Tab (W.setCell ⟨nb, j, none⟩ v) lo t bm n room (.map []) noT := by
  have keep : ∀ (k : Nat) (o : Obj), W.heap[k]? = some o → (∀ c z, o ≠ .cells c 25 z) → (W.setCell ⟨nb, j, none⟩ v).heap[k]? = some o := fun k o hk ho => by
    rw [Below.heap_setCell W _ v k (by show k ≠ nb; rintro rfl; rw [hb] at hk; cases hk; exact ho _ _ rfl)]; exact hk
  obtain ⟨es, clock, h1, h2⟩ := h.own
  exact ⟨keep _ _ h.hdr (by simp), ⟨es, clock, keep _ _ h1 (by simp), h2⟩, h.lom, fun _ _ _ => rfl, fun s hs => (by cases hs), fun s s' b hs => (by cases hs), fun s j x hx => (by cases hx)⟩
theorem eq23 (d : Nat) (w : World) (x y : Int) : (Op.equalIn (d + 2) 23 (.agg #[.int .i64 x, .int .i64 y]) (.agg #[.int .i64 x, .int .i64 y])).run Try.prog w = .ok true w := by
  have h : (Op.equalIn (d + 2) 23 (.agg #[.int .i64 x, .int .i64 y]) (.agg #[.int .i64 x, .int .i64 y])).run Try.prog w = .ok (x == x && (y == y)) w := by
    refine eqA_of Try.underlying23 (by kernel_rfl) ?_
    refine eqf_cons (by rfl) (by go_simp; rfl) (by go_simp; rfl) (by go_simp) ?_
    exact eqf_last (by rfl) (by go_simp; rfl) (by go_simp; rfl) (by go_simp)
  simpa using h
theorem eq25 (w : World) (s : ByteArray) (n x y t : Int) : (binOp .eql 25 (.agg #[.string s, .int .i64 n, .int .i64 x, .int .i64 y, .int .i64 t]) (.agg #[.string s, .int .i64 n, .int .i64 x, .int .i64 y, .int .i64 t])).run Try.prog w = .ok (.bool true) w := by
  rw [run_eql_struct]
  have h : (Op.equalIn 10000 25 (.agg #[.string s, .int .i64 n, .int .i64 x, .int .i64 y, .int .i64 t]) (.agg #[.string s, .int .i64 n, .int .i64 x, .int .i64 y, .int .i64 t])).run Try.prog w = .ok true w := by
    refine eqA_of Try.underlying25 (by kernel_rfl) ?_
    refine eqf_cons (r := true) (s := true) (by rfl) (by go_simp; rfl) (by go_simp; rfl) (by rw [run_equalIn_string (h := Try.underlying9)]; simp) ?_
    refine eqf_cons (r := true) (s := true) (by rfl) (by go_simp; rfl) (by go_simp; rfl) (by rw [run_equalIn_int (h := Try.underlying3)]; simp) ?_
    refine eqf_cons (r := true) (s := true) (by rfl) (by go_simp) (by go_simp) (eq23 9997 w x y) ?_
    exact eqf_last (r := true) (by rfl) (by go_simp; rfl) (by go_simp; rfl) (by rw [run_equalIn_int (h := Try.underlying3)]; simp)
  rw [h]; rfl
theorem Kp.below {lo B : Nat} {a w w' : World} (h : Kp lo w w') (hB : B ≤ lo) (hb : Below B a w) (hBa : B ≤ w.heap.size) : Below B a w' :=
  hb.trans ⟨h.os, h.tape, h.output, h.size, fun k hk => h.low k (Nat.lt_of_lt_of_le hk hB) (Nat.lt_of_lt_of_le hk hBa)⟩
theorem Ann.arg_of {room : Int} {x : Nt} {now : Int} {T T' : TT} {c : Int} (h : Ann room x now T c T') (hm : mayB x now = false) : c = 1 ∧ T' = T := by
  cases h with
  | arg _ => exact ⟨rfl, rfl⟩
  | full _ h2 => rw [hm] at h2; cases h2
  | ok h2 => rw [hm] at h2; cases h2
theorem names_few (y : Nt) (now : Int) : ∃ ss, NamesAre (oneT y) now ss ∧ (ss.length : Int) < 3 := by
  refine ⟨_, names_one (oneT_other y), ?_⟩
  split <;> simp
/-- One note handed back. -/
theorem row_one {w : World} {base : Nat} {ok : Nat → Prop} {v : Value} {y : Nt} (h : Kd.R k25 25 w base ok v [y]) : ∃ g cap, v = .slice (some ⟨g, 0, none⟩) 1 cap ∧ w.cell? ⟨g, 0, none⟩ = some (.string y.f0) ∧ w.cell? ⟨g, 1, none⟩ = some (.int .i64 y.f1) ∧ w.cell? ⟨g, 2, none⟩ = some (.int .i64 y.f2.f0) ∧ w.cell? ⟨g, 3, none⟩ = some (.int .i64 y.f2.f1) ∧ w.cell? ⟨g, 4, none⟩ = some (.int .i64 y.f3) := by
  obtain ⟨inner, ho⟩ := Kd.R_own h
  obtain ⟨A, c, hv, _, hr⟩ := Kd.R_reads h
  rcases ho.2 with ⟨_, h0⟩ | ⟨g, cap, cur, hv2, _⟩
  · cases h0
  · rw [hv2] at hv
    injection hv with e1 _ e3
    subst e1
    obtain ⟨ad, e, h0, h1, h2, h3, h4⟩ := at_T25 hr 0 (by decide) (by simp)
    cases e
    exact ⟨g, cap, hv2, h0, h1, h2, h3, h4⟩
end Go.Proofs.Ytmimnlbkllgfpaa.Tb
