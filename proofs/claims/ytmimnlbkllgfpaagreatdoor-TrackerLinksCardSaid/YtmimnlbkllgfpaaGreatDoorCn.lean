/- The page's example comes out. -/
import Derived.Test.YtmimnlbkllgfpaaGreatDoorAw
import Derived.Test.YtmimnlbkllgfpaaGreatDoorWEqStruct
namespace Go.Proofs.YtmimnlbkllgfpaaGreatDoor.Tb
set_option linter.unusedVariables false
set_option linter.unusedSimpArgs false
open Go.RowKit Go.Maps Go.Proofs.YtmimnlbkllgfpaaGreatDoor.A Go.Proofs.YtmimnlbkllgfpaaGreatDoorW.PrintWords

/-- A name of a number. -/
def nmL (n : Int) : List Int := (List.replicate 32 0).set 0 ((Int.tmod n 256) % 256)
def nm (n : Int) : ByteArray := strOfNums (nmL n)
theorem name_eq (n : Int) : mosaiclaw31_name.f n = some (nm n) := by
  unfold mosaiclaw31_name.f
  rw [if_pos (by decide), Option.bind_some, if_pos (by decide)]
  rfl
theorem nm_size (n : Int) : (nm n).size = 32 := by
  unfold nm strOfNums nmL
  simp [ByteArray.size]
def x1 : Nt := ⟨nm 1, 3, ⟨0, 0⟩, 9⟩
def x2 : Nt := ⟨nm 1, 5, ⟨0, 0⟩, 4⟩
theorem may_x1 : mayB x1 0 = true := (may_iff x1 0).2 ⟨by decide, nm_size 1, by decide, by decide, by decide⟩
theorem may_x2 : mayB x2 0 = true := (may_iff x2 0).2 ⟨by decide, nm_size 1, by decide, by decide, by decide⟩
def T1 : TT := putT x1 (fun s j => swp 0 (noT s j))
def T2 : TT := putT x2 (fun s j => swp 0 (T1 s j))
theorem T1_at (j : Nat) : T1 (nameS x1) j = if j = 3 then some x1 else none := by
  unfold T1 putT
  by_cases h : j = 3
  · subst h; rw [if_pos ⟨rfl, rfl⟩, if_pos rfl]
  · rw [if_neg (fun hh => h (by have : (j : Int) = 3 := hh.2; omega)), if_neg h]; rfl
theorem T2_at (j : Nat) : T2 (nameS x1) j = if j = 5 then some x2 else if j = 3 then some x1 else none := by
  unfold T2
  rw [putT]
  by_cases h : j = 5
  · subst h; rw [if_pos ⟨rfl, rfl⟩, if_pos rfl]
  · rw [if_neg (fun hh => h (by have : (j : Int) = 5 := hh.2; omega)), if_neg h, T1_at]
    by_cases h3 : j = 3
    · rw [if_pos h3]; rfl
    · rw [if_neg h3]; rfl
theorem T1_other (s : List UInt8) (h : s ≠ nameS x1) (j : Nat) : T1 s j = none := by
  unfold T1 putT
  rw [if_neg (fun hh => h hh.1)]; rfl
theorem T2_other (s : List UInt8) (h : s ≠ nameS x1) (j : Nat) : T2 s j = none := by
  unfold T2
  rw [putT, if_neg (fun hh => h hh.1)]
  show swp 0 (T1 s j) = none
  rw [T1_other s h j]; rfl
theorem n1_0 : nodesL T1 (nameS x1) 0 = [x1] := by
  unfold nodesL
  rw [if_pos (by decide), show T1 (nameS x1) = fun j => if j = 3 then some x1 else none from funext T1_at]
  simp [cntL, x1]
theorem n2 (now : Int) (h : 0 ≤ now ∧ now ≤ 1000) : nodesL T2 (nameS x1) now = (if now ≤ 9 then [x1] else []) ++ (if now ≤ 4 then [x2] else []) := by
  unfold nodesL
  rw [if_pos (by unfold tickB; simp; omega), show T2 (nameS x1) = fun j => if j = 5 then some x2 else if j = 3 then some x1 else none from funext T2_at]
  simp [cntL, x1, x2]
set_option maxHeartbeats 1000000 in
set_option maxRecDepth 100000 in
theorem awake_calls (w : World) : Calls Tryz.prog 6 #[] w fun e w' => e = .returned (.bool true) ∧ Below w.heap.size w w' := by
  have hNew := fun W => new_ok 2 W (by decide) (by decide)
  have hNm := fun W => mosaiclaw31_name.calls 1 (nm 1) W (name_eq 1)
  go_enter Tryz.func6, Tryz.ntmps6
  go_wp2_with (first
    | (go_at_call 7; refine (hNew _).mono ?_; rintro e w1 ⟨t, bm, rfl, hT, hb⟩; have hK : Kp w.heap.size w w1 := Kp.of_below hb; have hsz := hb.size)
    | (go_at_call 28; refine (hNm _).mono ?_; rintro e w2 ⟨rfl, hb2⟩; have hTb := hT.below hb2; have hKb := hK.trans (Kp.of_below hb2)))
  have hA := announce x1 0 _ hTb (by omega) hKb.size (by rw [show x1.f0 = nm 1 from rfl, nm_size]; unfold maxLen; omega)
  refine hA.mono ?_
  rintro e w3 ⟨c, D3, T3, rfl, hAnn, hT3, hK3⟩
  obtain ⟨rfl, rfl⟩ := hAnn.ok_of may_x1 (Or.inr ⟨[], names_none 0, by decide⟩)
  have hKc := hKb.trans hK3
  clear hA hAnn
  go_wp2_with (first
    | (go_at_call 28; refine (hNm _).mono ?_; rintro e w4 ⟨rfl, hb4⟩; have hTd := hT3.below hb4; have hKd := hKc.trans (Kp.of_below hb4)))
  have hA := announce x2 0 _ hTd (by omega) hKd.size (by rw [show x2.f0 = nm 1 from rfl, nm_size]; unfold maxLen; omega)
  refine hA.mono ?_
  rintro e w5 ⟨c, D5, T5, rfl, hAnn, hT5, hK5⟩
  obtain ⟨rfl, rfl⟩ := hAnn.ok_of may_x2 (Or.inl (by
    show nodesL T1 (nameS x1) 0 ≠ []
    rw [n1_0]; simp))
  have hKe := hKd.trans hK5
  clear hA hAnn
  have hTc : Tab w5 w.heap.size t bm 2 2 D5 T2 := hT5
  have hl4 : (nodesL T2 (nm 1).data.toList 4).length = 2 := by
    have := n2 4 (by decide)
    rw [show (nm 1).data.toList = nameS x1 from rfl, this]; rfl
  have hl5 : (nodesL T2 (nm 1).data.toList 5).length = 1 := by
    have := n2 5 (by decide)
    rw [show (nm 1).data.toList = nameS x1 from rfl, this]; rfl
  have hL9 : (namesL T2 9 D5).length = 1 := by
    rw [(namesAre hTc 9).length (names_one T2_other), n2 9 (by decide)]; rfl
  have hL10 : (namesL T2 10 D5).length = 0 := by
    rw [(namesAre hTc 10).length (names_one T2_other), n2 10 (by decide)]; rfl
  have hs1 : (nm 1).size ≤ maxLen := by rw [nm_size]; unfold maxLen; omega
  clear hT5 hT3 hTd hTb hT hK hKb hKc hKd hK3 hK5 hNew
  go_wp2_with (first
    | (go_at_call 28; refine (hNm _).mono ?_; rintro e w6 ⟨rfl, hb6⟩; have hTc := hTc.below hb6; have hKe := hKe.trans (Kp.of_below hb6))
    | (go_at_call 20; refine (nodes (nm 1) hs1 _ _ hTc).mono ?_; rintro e w7 ⟨v7, rfl, hR7, hb7⟩; obtain ⟨A7, c7, rfl, _, _⟩ := Kd.R_reads hR7; have hTc := hTc.below hb7; have hKe := hKe.trans (Kp.of_below hb7))
    | (go_at_call 25; refine (len_calls _ _ hTc (by omega)).mono ?_; rintro e w8 ⟨rfl, hb8⟩; have hTc := hTc.below hb8; have hKe := hKe.trans (Kp.of_below hb8)))
  go_ret
  exact ⟨rfl, ⟨hKe.os, hKe.tape, hKe.output, hKe.size, fun k hk => hKe.low k hk hk⟩⟩
end Go.Proofs.YtmimnlbkllgfpaaGreatDoor.Tb
/- A table with one note: what counts. -/
namespace Go.Proofs.YtmimnlbkllgfpaaGreatDoor.Tb
set_option linter.unusedVariables false
set_option linter.unusedSimpArgs false
open Go.RowKit Go.Maps Go.Proofs.YtmimnlbkllgfpaaGreatDoor.A Go.Proofs.YtmimnlbkllgfpaaGreatDoorW.PrintWords

theorem cntL_one (k : Nat) (y : Nt) (now : Int) : ∀ m, cntL (fun j => if j = k then some y else none) now m = if k < m ∧ now ≤ y.f3 then [y] else []
  | 0 => by rw [if_neg (by omega)]; rfl
  | m + 1 => by
    rw [cntL, cntL_one k y now m]
    by_cases h : m = k
    · subst h
      rw [if_neg (by omega)]
      simp only [if_true, List.nil_append]
      by_cases c : now ≤ y.f3
      · rw [if_pos c, if_pos ⟨by omega, c⟩]
      · rw [if_neg c, if_neg (fun hh => c hh.2)]
    · simp only [if_neg h, List.append_nil]
      by_cases c : k < m ∧ now ≤ y.f3
      · rw [if_pos c, if_pos ⟨by omega, c.2⟩]
      · rw [if_neg c, if_neg (fun hh => c ⟨by omega, hh.2⟩)]
/-- One note alone. -/
def oneT (y : Nt) : TT := putT y noT
theorem oneT_at (y : Nt) (k : Nat) (hk : y.f1 = (k : Int)) : oneT y (nameS y) = fun j => if j = k then some y else none := by
  funext j
  unfold oneT putT
  by_cases h : j = k
  · subst h; rw [if_pos ⟨rfl, hk.symm⟩, if_pos rfl]
  · rw [if_neg (fun hh => h (by have := hh.2; omega)), if_neg h]; rfl
theorem oneT_other (y : Nt) (s : List UInt8) (h : s ≠ nameS y) (j : Nat) : oneT y s j = none := by
  unfold oneT putT; rw [if_neg (fun hh => h hh.1)]; rfl
theorem oneT_nodes (y : Nt) (now : Int) (hy : 1 ≤ y.f1 ∧ y.f1 ≤ 15) : nodesL (oneT y) (nameS y) now = if tickB now = true ∧ now ≤ y.f3 then [y] else [] := by
  obtain ⟨k, hk⟩ : ∃ k : Nat, y.f1 = (k : Int) := ⟨y.f1.toNat, by omega⟩
  unfold nodesL
  rw [oneT_at y k hk, cntL_one]
  by_cases c : tickB now = true
  · rw [if_pos c]
    by_cases c2 : now ≤ y.f3
    · rw [if_pos ⟨by omega, c2⟩, if_pos ⟨c, c2⟩]
    · rw [if_neg (fun h => c2 h.2), if_neg (fun h => c2 h.2)]
  · rw [if_neg c, if_neg (fun h => c h.1)]
theorem swp_noT (now : Int) : (fun s j => swp now (noT s j)) = noT := by funext s j; rfl
/-- Another note of the same name and node takes its place. -/
theorem put_again (a y : Nt) (now : Int) (hn : nameS a = nameS y) (h1 : a.f1 = y.f1) : putT y (fun s j => swp now (oneT a s j)) = oneT y := by
  funext s j
  unfold oneT
  by_cases h : s = nameS y ∧ (j : Int) = y.f1
  · unfold putT; rw [if_pos h, if_pos h]
  · unfold putT
    rw [if_neg h, if_neg h]
    show swp now (if s = nameS a ∧ (j : Int) = a.f1 then some a else noT s j) = noT s j
    rw [if_neg (fun hh => h ⟨hh.1.trans hn, hh.2.trans h1⟩)]; rfl
/-- The empty table, its header's block elsewhere. -/
theorem Tab.empty_set {W : World} {lo t bm n nb j : Nat} {room : Int} {cur : Array Value} (h : Tab W lo t bm n room (.map []) noT) (hb : W.heap[nb]? = some (.cells cur 35 (0, 0))) (v : Value) : Tab (W.setCell ⟨nb, j, none⟩ v) lo t bm n room (.map []) noT := by
  have keep : ∀ (k : Nat) (o : Obj), W.heap[k]? = some o → (∀ c z, o ≠ .cells c 35 z) → (W.setCell ⟨nb, j, none⟩ v).heap[k]? = some o := fun k o hk ho => by
    rw [Below.heap_setCell W _ v k (by show k ≠ nb; rintro rfl; rw [hb] at hk; cases hk; exact ho _ _ rfl)]; exact hk
  obtain ⟨es, clock, h1, h2⟩ := h.own
  exact ⟨keep _ _ h.hdr (by simp), ⟨es, clock, keep _ _ h1 (by simp), h2⟩, h.lom, fun _ _ _ => rfl, fun s hs => (by cases hs), fun s s' b hs => (by cases hs), fun s j x hx => (by cases hx)⟩
theorem eq23 (d : Nat) (w : World) (x y : Int) : (Op.equalIn (d + 2) 24 (.agg #[.int .i64 x, .int .i64 y]) (.agg #[.int .i64 x, .int .i64 y])).run Tryz.prog w = .ok true w := by
  have h : (Op.equalIn (d + 2) 24 (.agg #[.int .i64 x, .int .i64 y]) (.agg #[.int .i64 x, .int .i64 y])).run Tryz.prog w = .ok (x == x && (y == y)) w := by
    refine eqA_of Tryz.underlying24 (by kernel_rfl) ?_
    refine eqf_cons (by rfl) (by go_simp; rfl) (by go_simp; rfl) (by go_simp) ?_
    exact eqf_last (by rfl) (by go_simp; rfl) (by go_simp; rfl) (by go_simp)
  simpa using h
theorem eq25 (w : World) (s : ByteArray) (n x y t : Int) : (binOp .eql 35 (.agg #[.string s, .int .i64 n, .int .i64 x, .int .i64 y, .int .i64 t]) (.agg #[.string s, .int .i64 n, .int .i64 x, .int .i64 y, .int .i64 t])).run Tryz.prog w = .ok (.bool true) w := by
  rw [run_eql_struct]
  have h : (Op.equalIn 10000 35 (.agg #[.string s, .int .i64 n, .int .i64 x, .int .i64 y, .int .i64 t]) (.agg #[.string s, .int .i64 n, .int .i64 x, .int .i64 y, .int .i64 t])).run Tryz.prog w = .ok true w := by
    refine eqA_of Tryz.underlying35 (by kernel_rfl) ?_
    refine eqf_cons (r := true) (s := true) (by rfl) (by go_simp; rfl) (by go_simp; rfl) (by rw [run_equalIn_string (h := Tryz.underlying9)]; simp) ?_
    refine eqf_cons (r := true) (s := true) (by rfl) (by go_simp; rfl) (by go_simp; rfl) (by rw [run_equalIn_int (h := Tryz.underlying3)]; simp) ?_
    refine eqf_cons (r := true) (s := true) (by rfl) (by go_simp) (by go_simp) (eq23 9997 w x y) ?_
    exact eqf_last (r := true) (by rfl) (by go_simp; rfl) (by go_simp; rfl) (by rw [run_equalIn_int (h := Tryz.underlying3)]; simp)
  rw [h]; rfl
theorem Kp.below {lo B : Nat} {a w w' : World} (h : Kp lo w w') (hB : B ≤ lo) (hb : Below B a w) (hBa : B ≤ w.heap.size) : Below B a w' :=
  hb.trans ⟨h.os, h.tape, h.output, h.size, fun k hk => h.low k (Nat.lt_of_lt_of_le hk hB) (Nat.lt_of_lt_of_le hk hBa)⟩
theorem Ann.arg_of {room : Int} {x : Nt} {now : Int} {T T' : TT} {c : Int} (h : Ann room x now T c T') (hm : mayB x now = false) : c = 1 ∧ T' = T := by
  cases h with
  | arg _ => exact ⟨rfl, rfl⟩
  | full _ h2 => rw [hm] at h2; cases h2
  | ok h2 => rw [hm] at h2; cases h2
theorem names_few (y : Nt) (now : Int) : ∃ ss, NamesAre (oneT y) now ss ∧ (ss.length : Int) < 3 := by
  refine ⟨_, names_one (oneT_other y), ?_⟩
  split <;> simp
/-- One note handed back. -/
theorem row_one {w : World} {base : Nat} {ok : Nat → Prop} {v : Value} {y : Nt} (h : Kd.R k35 35 w base ok v [y]) : ∃ g cap, v = .slice (some ⟨g, 0, none⟩) 1 cap ∧ w.cell? ⟨g, 0, none⟩ = some (.string y.f0) ∧ w.cell? ⟨g, 1, none⟩ = some (.int .i64 y.f1) ∧ w.cell? ⟨g, 2, none⟩ = some (.int .i64 y.f2.f0) ∧ w.cell? ⟨g, 3, none⟩ = some (.int .i64 y.f2.f1) ∧ w.cell? ⟨g, 4, none⟩ = some (.int .i64 y.f3) := by
  obtain ⟨inner, ho⟩ := Kd.R_own h
  obtain ⟨A, c, hv, _, hr⟩ := Kd.R_reads h
  rcases ho.2 with ⟨_, h0⟩ | ⟨g, cap, cur, hv2, _⟩
  · cases h0
  · rw [hv2] at hv
    injection hv with e1 _ e3
    subst e1
    obtain ⟨ad, e, h0, h1, h2, h3, h4⟩ := at_T35 hr 0 (by decide) (by simp)
    cases e
    exact ⟨g, cap, hv2, h0, h1, h2, h3, h4⟩
end Go.Proofs.YtmimnlbkllgfpaaGreatDoor.Tb
