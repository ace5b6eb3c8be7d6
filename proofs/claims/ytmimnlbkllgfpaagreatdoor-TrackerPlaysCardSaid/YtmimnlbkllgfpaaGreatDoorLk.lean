/- Table.Link: walked. -/
import Derived.Test.YtmimnlbkllgfpaaGreatDoorAx0
import Derived.Test.YtmimnlbkllgfpaaGreatDoorAx3
import Derived.Test.YtmimnlbkllgfpaaGreatDoorAx5
import Derived.Test.YtmimnlbkllgfpaaGreatDoorLq
namespace Go.Proofs.YtmimnlbkllgfpaaGreatDoor.Tb
open Go.RowKit Go.Maps Go.Proofs.YtmimnlbkllgfpaaGreatDoor.A Go.Proofs.YtmimnlbkllgfpaaGreatDoorW.PrintWords Go.Proofs.YtmimnlbkllgfpaaGreatDoor.Di Go.Proofs.YtmimnlbkllgfpaaGreatDoor.So Go.Proofs.YtmimnlbkllgfpaaGreatDoor.Hand
set_option linter.unusedSimpArgs false
set_option linter.unusedVariables false

theorem add_block (a : Addr) (n : Nat) : (a.add n).block = a.block := by unfold Addr.add; split <;> rfl
/-- Notes are read alike where their block is the same. -/
theorem C_same {w W : World} {A : Option Addr} {n : Nat} {l : List Nt} (h : Kd.C k35 w A n l) (hA : ∀ ad, A = some ad → W.heap[ad.block]? = w.heap[ad.block]?) : Kd.C k35 W A n l := by
  obtain ⟨h1, h2, h3⟩ := h
  refine ⟨h1, h2, fun hp => ?_⟩
  obtain ⟨ad, rfl, h4⟩ := h3 hp
  refine ⟨ad, rfl, fun k x hx => ?_⟩
  obtain ⟨cs, hl, hk, h5⟩ := h4 k x hx
  refine ⟨cs, hl, ?_, fun i u hu => ?_⟩
  · obtain rfl := k35_open hk
    exact k35_mk _ x
  · rw [← h5 i u hu]
    unfold World.cell?
    rw [add_block, hA ad rfl]
/-- The block of a row of notes of one's own. -/
theorem R_blk {w : World} {base : Nat} {ok : Nat → Prop} {v : Value} {l : List Nt} (h : Kd.R k35 35 w base ok v l) (hne : l ≠ []) :
    ∃ A c, v = .slice A l.length c ∧ l.length ≤ c ∧ Kd.C k35 w A l.length l ∧ ∃ g cur, w.heap[g]? = some (.cells cur 35 (0, 0)) ∧ ∀ ad, A = some ad → ad.block = g := by
  obtain ⟨A, c, rfl, hlc, hC⟩ := Kd.R_reads h
  obtain ⟨inner, ho⟩ := Kd.R_own h
  have hpos : 0 < l.length := List.length_pos_iff.mpr hne
  rcases ho.2 with ⟨_, h0⟩ | ⟨g, cap, cur, hv, hg, hcur, _⟩
  · omega
  injection hv with h1 h2 h3
  subst h1
  exact ⟨_, c, rfl, hlc, hC, g, cur, hcur, fun ad h => by obtain rfl := Option.some.inj h; rfl⟩
theorem index_from (l : List Int) (x : Int) (hl : l.length ≤ 1000000) : ∀ (m j k : Nat), j + m = l.length → m < k → ∃ r, slices_Index_int_int.l0 k l x (l.length : Int) (j : Int) = some r ∧ (decide (r ≥ 0) = decide (x ∈ l.drop j))
  | m, j, 0, _, hk => by omega
  | 0, j, k + 1, hj, hk => by
    rw [slices_Index_int_int.l0, if_neg (by omega), List.drop_eq_nil_of_le (by omega)]
    exact ⟨-1, rfl, by simp⟩
  | m + 1, j, k + 1, hj, hk => by
    have hlt : j < l.length := by omega
    rw [slices_Index_int_int.l0, if_pos (by omega), if_pos (by omega), if_pos (by omega)]
    have e : rd l (j : Int) = l[j] := by unfold rd; rw [Int.toNat_natCast, List.getD_eq_getElem?_getD, List.getElem?_eq_getElem hlt]; rfl
    rw [e, List.drop_eq_getElem_cons hlt]
    by_cases h : x = l[j]
    · rw [if_pos h]; exact ⟨_, rfl, by rw [decide_eq_true (show (j : Int) ≥ 0 by omega), decide_eq_true (by rw [h]; exact List.mem_cons_self ..)]⟩
    · rw [if_neg h, show wrap64 ((j : Int) + 1) = ((j + 1 : Nat) : Int) from by unfold wrap64; omega]
      obtain ⟨r, h1, h2⟩ := index_from l x hl m (j + 1) k (by omega) (by omega)
      exact ⟨r, h1, by rw [h2]; simp only [List.mem_cons, h, false_or]⟩
theorem contains_eq (l : List Int) (x : Int) (hl : l.length ≤ 1000000) : slices_Contains_int_int.f (l.length + 1) l x = some (decide (x ∈ l)) := by
  obtain ⟨r, h1, h2⟩ := index_from l x hl l.length 0 (l.length + 1) (by omega) (by omega)
  unfold slices_Contains_int_int.f slices_Index_int_int.f
  have h1' : slices_Index_int_int.l0 (l.length + 1) l x (l.length : Int) 0 = some r := h1
  rw [h1', Option.bind_some, h2, List.drop_zero]
/-- A link's nodes, and where they are. -/
def lkN (ns : List Nt) (near : List Int) : List Int := (linkN ns near).map (·.f1)
def lkP (ns : List Nt) (near : List Int) : List S24 := (linkN ns near).map (·.f2)
theorem linkN_snoc {ns : List Nt} {near : List Int} {j : Nat} (h : j < ns.length) : linkN (ns.take (j + 1)) near = linkN (ns.take j) near ++ (if (rd_T35 ns (j : Int)).f1 ∈ near then [rd_T35 ns (j : Int)] else []) := by
  unfold linkN
  rw [List.take_add_one, List.getElem?_eq_getElem h, List.filter_append, rd_at h]
  congr 1
  by_cases h1 : ns[j].f1 ∈ near <;> simp [h1]
theorem linkN_le (ns : List Nt) (near : List Int) (j : Nat) : (linkN (ns.take j) near).length ≤ ns.length := by
  unfold linkN
  exact Nat.le_trans (List.length_filter_le _ _) (by rw [List.length_take]; omega)
set_option maxHeartbeats 4000000 in
set_option maxRecDepth 100000 in
/-- A link of what is not found. -/
theorem link_none {lo t bm n : Nat} {room : Int} {D : DataW Unit} {T : TT} (s ti : ByteArray) (hs : s.size ≤ maxLen) (a : Int × Int) (now : Int) (w : World) (h : Tab w lo t bm n room D T)
    (hn : ¬ (tickB now = true ∧ okP a = true ∧ (0 : Int) ≤ 6 ∧ nodesL T s.data.toList now ≠ [])) (hc : (findL T s.data.toList a 6 now).2 ≠ 0) :
    Calls Tryz.prog 16 #[.pointer (some ⟨t, 0, none⟩), .string s, .string ti, .agg #[.int .i64 a.1, .int .i64 a.2], .int .i64 now] w fun e w' => e = .returned (.tuple #[.string ⟨#[]⟩, .int .i64 (findL T s.data.toList a 6 now).2]) ∧ Below w.heap.size w w' := by
  have hF := fun W hT => find_none (T := T) (D := D) (lo := lo) (t := t) (bm := bm) (n := n) (room := room) s hs a 6 now W hT hn
  generalize (findL T s.data.toList a 6 now).2 = c at *
  obtain ⟨p0, p1⟩ := a
  have hB1 : Below w.heap.size w (w.alloc (.cells #[.int .i64 p0, .int .i64 p1] 24)) := (Below.refl _ w).alloc (Nat.le_refl _) _
  have hn1 : (w.alloc (.cells #[.int .i64 p0, .int .i64 p1] 24)).heap[w.heap.size]? = some (.cells #[.int .i64 p0, .int .i64 p1] 24 (0, 0)) := blk_new w _
  have hT1 := h.below hB1
  have e0 := blk_cell hn1 0
  have e1 := blk_cell hn1 1
  have gc : (c == 0) = false := by rw [beq_eq_false_iff_ne]; exact hc
  clear h hn
  go_enter Tryz.func16, Tryz.ntmps16
  go_wp2_with (go_at_call 13; refine (hF _ hT1).mono ?_; rintro e w1 ⟨rfl, _, hd1⟩; have hB2 := hB1.trans (hd1.mono hB1.size))
  go_ret2
  exact ⟨rfl, hB2⟩
set_option maxHeartbeats 8000000 in
set_option maxRecDepth 100000 in
/-- A link of what is found. -/
theorem link_some {lo t bm n : Nat} {room : Int} {D : DataW Unit} {T : TT} (s ti : ByteArray) (hs : s.size ≤ maxLen) (a : Int × Int) (now : Int) (w : World) (h : Tab w lo t bm n room D T) (hO : OkT T) (hL : TabW w)
    (htk : tickB now = true) (ho : okP a = true) (hne : nodesL T s.data.toList now ≠ [])
    (k : Nat) (u : ByteArray) (c : Int) (hT : link_Text.f k s ti (lkN (nodesL T s.data.toList now) (foundL (nodesL T s.data.toList now) a 6)) (lkP (nodesL T s.data.toList now) (foundL (nodesL T s.data.toList now) a 6)) = some (u, c)) :
    Calls Tryz.prog 16 #[.pointer (some ⟨t, 0, none⟩), .string s, .string ti, .agg #[.int .i64 a.1, .int .i64 a.2], .int .i64 now] w fun e w' => e = .returned (.tuple #[.string u, .int .i64 c]) ∧ Below w.heap.size w w' := by
  have hF := fun W hT => find_some (T := T) (D := D) (lo := lo) (t := t) (bm := bm) (n := n) (room := room) s hs a 6 now W hT hO htk ho (by decide) hne
  have hN := fun W hT => nodes (T := T) (D := D) (lo := lo) (t := t) (bm := bm) (n := n) (room := room) s hs now W hT
  have hle := nodesL_le T s.data.toList now
  generalize nodesL T s.data.toList now = ns at *
  have hfl := found_len ns a 6
  rw [show ((6 : Int)).toNat = 6 from rfl] at hF
  generalize foundL ns a 6 = fl at *
  have hfl6 : fl.length ≤ 1000000 := by omega
  obtain ⟨p0, p1⟩ := a
  have hB1 : Below w.heap.size w (w.alloc (.cells #[.int .i64 p0, .int .i64 p1] 24)) := (Below.refl _ w).alloc (Nat.le_refl _) _
  have hn1 : (w.alloc (.cells #[.int .i64 p0, .int .i64 p1] 24)).heap[w.heap.size]? = some (.cells #[.int .i64 p0, .int .i64 p1] 24 (0, 0)) := blk_new w _
  have hT1 := h.below hB1
  have e0 := blk_cell hn1 0
  have e1 := blk_cell hn1 1
  have HT := Aside.mk (And.intro hT (And.intro hL (And.intro hfl6 hne)))
  clear h htk ho hfl hT hL hfl6 hne
  go_enter Tryz.func16, Tryz.ntmps16
  go_wp2_with (first
    | (go_at_call 13; refine (hF _ hT1).mono ?_; rintro e w1 ⟨v1, rfl, hR1, hd1⟩; obtain ⟨A1, c1, rfl, hlc1, hC1⟩ := Kd.R_reads hR1; have hB2 := hB1.trans (hd1.mono hB1.size); have hT2 := hT1.below hd1; have hb5 := (Below.refl w1.heap.size w1).alloc (Nat.le_refl _) (.cells #[.string s, .string ti, .slice none 0 0, .slice none 0 0] 70); have hg5 := blk_new w1 (.cells #[.string s, .string ti, .slice none 0 0, .slice none 0 0] 70); have hT3 := hT2.below hb5)
    | (go_at_call 20; refine (hN _ hT3).mono ?_; rintro e w6 ⟨v6, rfl, hR6, hd6⟩; obtain ⟨A6, c6, rfl, hlc6, hC6, gN, cur, hcur, hgN⟩ := R_blk hR6 HT.out.2.2.2; have hb6 := hb5.trans (hd6.mono hb5.size); have hg6 := blk_below hg5 hd6))
  have hC1 : Kd.C (Kd.int .i64) w1 A1 fl.length fl := hC1
  have HC := Aside.mk (And.intro hC6 (And.intro hgN (And.intro hlc1 hlc6)))
  have HB := Aside.mk (And.intro hB2 hcur)
  clear hR1 hR6 hd1 hd6 hB1 hB2 hT1 hT2 hT3 hn1 e0 e1 hF hN hC6 hgN
  have info3 : (Tryz.prog.info? 3).map (fun i => (i.zero, i.size, i.bytes)) = some (some (.int .i64 0), (Kd.int .i64).sz, 8) := by kernel_rfl
  have info24 : (Tryz.prog.info? 24).map (fun i => (i.zero, i.size, i.bytes)) = some (some (.agg #[(.int .i64 0), (.int .i64 0)]), k24.sz, 16) := by kernel_rfl
  have hcon := fun (x : Int) (W : World) (hW : Below w1.heap.size w1 W) => slices_Contains_int_int.calls (fl.length + 1) A1 c1 fl x (decide (x ∈ fl)) W (Kd.C_below hC1 hW) hlc1 (contains_eq fl x HT.out.2.2.1)
  have zero35 : ∀ W : World, (zeroValue 35).run Tryz.prog W = .ok (.agg #[(.string ⟨#[]⟩), (.int .i64 0), (.int .i64 0), (.int .i64 0), (.int .i64 0)]) W := fun W => by kernel_rfl
  go_loopw [36] (fun iv wr => ∃ (j : Nat) (v2 v3 : Value), j ≤ ns.length ∧ iv = .int .i64 j ∧ LkAt w1.heap.size w1.heap.size wr s ti v2 v3 (lkN (ns.take j) fl) (lkP (ns.take j) fl) ∧ Below w1.heap.size w1 wr ∧ wr.heap[gN]? = some (.cells cur 35 (0, 0))) (fun iv _ => ns.length - (intOf iv).toNat)
  case atStart => exact ⟨0, _, _, by omega, rfl, ⟨hg6, Kd.R_nil _ _ _ _ _, Kd.R_nil _ _ _ _ _, Nat.le_refl _⟩, hb6, hcur⟩
  case round =>
    obtain ⟨j, v2, v3, hj, rfl, hK, hB, hNb⟩ := hrel
    by_cases hlt : j < ns.length
    · have gl : (j : Int) < (ns.length : Int) := by omega
      have p0j : (0 : Int) ≤ (j : Int) := by omega
      have wj : IntKind.i64.wrap ((j : Int) + 1) = ((j + 1 : Nat) : Int) := by rw [IntKind.wrap_i64]; omega
      obtain ⟨ad, rfl, d0, d1, d2, d3, d4⟩ := at_T35 (C_same HC.out.1 (W := wr) (fun ad h => by rw [HC.out.2.1 ad h, hNb, hcur])) (j : Int) p0j gl
      rw [Int.toNat_natCast] at d0 d1 d2 d3 d4
      have hsn := linkN_snoc (near := fl) hlt
      have hln := linkN_le ns fl j
      have HE := Aside.mk (And.intro hsn hln)
      clear hsn hln
      generalize rd_T35 ns (j : Int) = x at *
      have hK1 := hK.below (below_alloc (Below.refl wr.heap.size wr) (.cells #[.string x.f0, .int .i64 x.f1, .int .i64 x.f2.f0, .int .i64 x.f2.f1, .int .i64 x.f3] 35))
      have hBa := below_alloc hB (.cells #[.string x.f0, .int .i64 x.f1, .int .i64 x.f2.f0, .int .i64 x.f2.f1, .int .i64 x.f3] 35)
      have hn1 := blk_new wr (.cells #[.string x.f0, .int .i64 x.f1, .int .i64 x.f2.f0, .int .i64 x.f2.f1, .int .i64 x.f3] 35)
      have hN1 := blk_alloc hNb (.cells #[.string x.f0, .int .i64 x.f1, .int .i64 x.f2.f0, .int .i64 x.f2.f1, .int .i64 x.f3] 35)
      go_upto_region 8 with (fail)
      generalize (wr.alloc (.cells #[.string x.f0, .int .i64 x.f1, .int .i64 x.f2.f0, .int .i64 x.f2.f1, .int .i64 x.f3] 35)) = wa at *
      generalize wr.heap.size = nn at *
      clear hK hB hNb d0 d1 d2 d3 d4
      have m1 := blk_cell hn1 1
      have hcx := hcon x.f1
      by_cases hin : x.f1 ∈ fl
      · rw [decide_eq_true hin] at hcx
        go_upto_region 9 with (go_at_call 40; refine (hcx _ hBa).mono ?_; rintro e w2 ⟨rfl, hd2⟩; have hK2 := hK1.below hd2.below; have hBb := hBa.trans (hd2.below.mono hBa.size); have hn2 := blk_below hn1 hd2.below; have hN2 := blk_below hN1 hd2.below)
        have k2 : w2.cell? ⟨w1.heap.size, 2, none⟩ = some v2 := blk_cell hK2.blk 2
        have m2 : w2.cell? ⟨nn, 1, none⟩ = some (.int .i64 x.f1) := blk_cell hn2 1
        have hlN : (lkN (ns.take j) fl).length ≤ 16 := by have := HE.out.2; unfold lkN; rw [List.length_map]; omega
        have hlP : (lkP (ns.take j) fl).length ≤ 16 := by have := HE.out.2; unfold lkP; rw [List.length_map]; omega
        go_upto_region 10 with ((with_reducible refine gate_builtin (b := .append) (xs := #[.tmp 45, .tmp 48]) rfl ?_); at_builtin; refine Kd.R_append (Kd.int .i64) (w0 := w1) w1.heap.size rfl (.tmp 45) (.tmp 48) 48 3 (.int .i64 0) 8 rfl Tryz.underlying48 info3 rfl (by decide) (by omega) v2 (lkN (ns.take j) fl) x.f1 [.int .i64 x.f1] (fun _ => True) (fun _ => False) rfl rfl ?aP (fun _ hk => hk.elim) (fun _ _ => trivial) ?aO ?aB ?aS ?aL ?_; (case aP => exact rfl); (case aB => exact hBb); (case aO => exact hK2.nodes); (case aS => exact hBb.size); (case aL => omega); intro u2 w6 hR hB6 hgr hat; obtain ⟨A7, L7, C7, e7⟩ : ∃ A L C, u2 = .slice A L C := (by obtain ⟨A, C, e⟩ := Kd.R_slice hR; exact ⟨A, _, C, e⟩); subst e7; have hP6 := Kd.R_over' hK2.places (Kd.R_typed hK2.nodes) (by decide) hgr; have hg6 := blk_grown hK2.blk hgr (Kd.R_ne hK2.nodes hK2.blk (by decide)); have hn6 := blk_grown hn2 hgr (Kd.R_ne hK2.nodes hn2 (by decide)); have hN6 := blk_grown hN2 hgr (Kd.R_ne hK2.nodes hN2 (by decide)); have hc6 := (blk_cell hg6 2).trans rfl; have hf6 := blk_frozen hg6 2)
        have h7 : LkAt w1.heap.size w1.heap.size (w6.setCell ⟨w1.heap.size, 2, none⟩ (.slice A7 L7 C7)) s ti (.slice A7 L7 C7) v3 (lkN (ns.take j) fl ++ [x.f1]) (lkP (ns.take j) fl) :=
          ⟨blk_put hg6 2 (.slice A7 L7 C7) rfl, Kd.R_mono (Kd.R_far (p := ⟨w1.heap.size, 2, none⟩) (Kd.R_types hR hg6 (by decide)) (fun _ hk => hk.2) (.slice A7 L7 C7)) (fun _ _ => trivial), Kd.R_mono (Kd.R_far (p := ⟨w1.heap.size, 2, none⟩) (Kd.R_types hP6 hg6 (by decide)) (fun _ hk => hk.2) (.slice A7 L7 C7)) (fun _ _ => trivial), Nat.le_refl _⟩
        have hn7 := blk_far (p := ⟨w1.heap.size, 2, none⟩) hn6 (blk_ne hn6 hg6 (by decide)) (.slice A7 L7 C7)
        have hN7 := blk_far (p := ⟨w1.heap.size, 2, none⟩) hN6 (blk_ne hN6 hg6 (by decide)) (.slice A7 L7 C7)
        have hB7 := hB6.setCell (p := ⟨w1.heap.size, 2, none⟩) (Nat.le_refl _) (.slice A7 L7 C7)
        generalize (w6.setCell ⟨w1.heap.size, 2, none⟩ (.slice A7 L7 C7)) = w7 at *
        clear hR hB6 hgr hat hP6 hg6 hn6 hN6 hc6 hf6 k2 m2 hK2 hn2 hN2 hBb hK1 hBa hn1 hN1 m1 hcx hd2
        have k3 : w7.cell? ⟨w1.heap.size, 3, none⟩ = some v3 := blk_cell h7.blk 3
        have m2 : w7.cell? ⟨nn, 2, none⟩ = some (.int .i64 x.f2.f0) := blk_cell hn7 2
        have m3 : w7.cell? ⟨nn, 3, none⟩ = some (.int .i64 x.f2.f1) := blk_cell hn7 3
        go_wp2_with ((with_reducible refine gate_builtin (b := .append) (xs := #[.tmp 52, .tmp 55]) rfl ?_); at_builtin; refine Kd.R_append k24 (w0 := w1) w1.heap.size rfl (.tmp 52) (.tmp 55) 68 24 (.agg #[(.int .i64 0), (.int .i64 0)]) 16 rfl Tryz.underlying68 info24 rfl (by decide) (by omega) v3 (lkP (ns.take j) fl) x.f2 [.int .i64 x.f2.f0, .int .i64 x.f2.f1] (fun _ => True) (fun _ => False) rfl rfl ?aP (fun _ hk => hk.elim) (fun _ _ => trivial) ?aO ?aB ?aS ?aL ?_; (case aP => exact k24_mkM _ _ _ x.f2); (case aB => exact hB7); (case aO => exact h7.places); (case aS => exact hB7.size); (case aL => omega); intro u3 w8 hR hB6 hgr hat; obtain ⟨A8, L8, C8, e8⟩ : ∃ A L C, u3 = .slice A L C := (by obtain ⟨A, C, e⟩ := Kd.R_slice hR; exact ⟨A, _, C, e⟩); subst e8; have hP6 := Kd.R_over' h7.nodes (Kd.R_typed h7.places) (by decide) hgr; have hg6 := blk_grown h7.blk hgr (Kd.R_ne h7.places h7.blk (by decide)); have hn6 := blk_grown hn7 hgr (Kd.R_ne h7.places hn7 (by decide)); have hN6 := blk_grown hN7 hgr (Kd.R_ne h7.places hN7 (by decide)); have hc6 := (blk_cell hg6 3).trans rfl; have hf6 := blk_frozen hg6 3)
        have h9 : LkAt w1.heap.size w1.heap.size (w8.setCell ⟨w1.heap.size, 3, none⟩ (.slice A8 L8 C8)) s ti (.slice A7 L7 C7) (.slice A8 L8 C8) (lkN (ns.take j) fl ++ [x.f1]) (lkP (ns.take j) fl ++ [x.f2]) :=
          ⟨blk_put hg6 3 (.slice A8 L8 C8) rfl, Kd.R_mono (Kd.R_far (p := ⟨w1.heap.size, 3, none⟩) (Kd.R_types hP6 hg6 (by decide)) (fun _ hk => hk.2) (.slice A8 L8 C8)) (fun _ _ => trivial), Kd.R_mono (Kd.R_far (p := ⟨w1.heap.size, 3, none⟩) (Kd.R_types hR hg6 (by decide)) (fun _ hk => hk.2) (.slice A8 L8 C8)) (fun _ _ => trivial), Nat.le_refl _⟩
        have hN9 := blk_far (p := ⟨w1.heap.size, 3, none⟩) hN6 (blk_ne hN6 hg6 (by decide)) (.slice A8 L8 C8)
        have hB9 := hB6.setCell (p := ⟨w1.heap.size, 3, none⟩) (Nat.le_refl _) (.slice A8 L8 C8)
        have q1 : lkN (ns.take (j + 1)) fl = lkN (ns.take j) fl ++ [x.f1] := by
          unfold lkN; rw [HE.out.1, if_pos hin, List.map_append]; rfl
        have q2 : lkP (ns.take (j + 1)) fl = lkP (ns.take j) fl ++ [x.f2] := by
          unfold lkP; rw [HE.out.1, if_pos hin, List.map_append]; rfl
        exact ⟨⟨j + 1, _, _, by omega, rfl, by rw [q1, q2]; exact h9, hB9, hN9⟩, by show ns.length - ((j + 1 : Nat) : Int).toNat < ns.length - (j : Int).toNat; omega⟩
      · rw [decide_eq_false hin] at hcx
        go_wp2_with (go_at_call 40; refine (hcx _ hBa).mono ?_; rintro e w2 ⟨rfl, hd2⟩; have hK2 := hK1.below hd2.below; have hBb := hBa.trans (hd2.below.mono hBa.size); have hN2 := blk_below hN1 hd2.below)
        have q1 : lkN (ns.take (j + 1)) fl = lkN (ns.take j) fl := by
          unfold lkN; rw [HE.out.1, if_neg hin, List.append_nil]
        have q2 : lkP (ns.take (j + 1)) fl = lkP (ns.take j) fl := by
          unfold lkP; rw [HE.out.1, if_neg hin, List.append_nil]
        exact ⟨⟨j + 1, _, _, by omega, rfl, by rw [q1, q2]; exact hK2, hBb, hN2⟩, by show ns.length - ((j + 1 : Nat) : Int).toNat < ns.length - (j : Int).toNat; omega⟩
    · obtain rfl : j = ns.length := by omega
      have gl : ¬ (ns.length : Int) < (ns.length : Int) := by omega
      rw [List.take_length] at hK
      obtain ⟨A2, c2, rfl, hl2, hC2⟩ := Kd.R_reads hK.nodes
      obtain ⟨A3, c3, rfl, hl3, hC3⟩ := Kd.R_reads hK.places
      have hX := link_Text.calls k s ti A2 c2 _ A3 c3 _ u c wr hC2 hl2 hC3 hl3 HT.out.1 (HT.out.2.1.below (HB.out.1.trans (hB.mono HB.out.1.size)))
      have q0 := blk_cell hK.blk 0
      have q1 := blk_cell hK.blk 1
      have q2 := blk_cell hK.blk 2
      have q3 := blk_cell hK.blk 3
      have HBr := Aside.mk (HB.out.1.trans (hB.mono HB.out.1.size))
      clear hK hB hC2 hC3
      go_wp2_with (go_at_call 41; refine hX.mono ?_; rintro e w9 ⟨rfl, hd9⟩)
      go_ret2
      exact ⟨rfl, HBr.out.trans (hd9.mono HBr.out.size)⟩
end Go.Proofs.YtmimnlbkllgfpaaGreatDoor.Tb
