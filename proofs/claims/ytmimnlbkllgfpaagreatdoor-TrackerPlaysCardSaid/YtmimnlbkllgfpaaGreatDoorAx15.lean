-- Written for this claim by the session's own turn of the kit's print program (wip/tools/xprint.py).
import Derived.Test.YtmimnlbkllgfpaaGreatDoorSg
import Derived.Test.YtmimnlbkllgfpaaGreatDoorAx0
import Derived.Test.YtmimnlbkllgfpaaGreatDoorAx8
import Derived.Test.YtmimnlbkllgfpaaGreatDoorAx10
import Derived.Test.YtmimnlbkllgfpaaGreatDoorAx14
namespace Go.Proofs.YtmimnlbkllgfpaaGreatDoor.A
open Go.RowKit Go.Proofs.YtmimnlbkllgfpaaGreatDoor.Sg Go.Proofs.YtmimnlbkllgfpaaGreatDoor.Fl Go.Proofs.YtmimnlbkllgfpaaGreatDoor.Sq Go.Proofs.YtmimnlbkllgfpaaGreatDoor.Hand Go.Proofs.YtmimnlbkllgfpaaGreatDoorW.PrintWords Go.Proofs.YtmimnlbkllgfpaaGreatDoorW.PrintLast Go.Proofs.YtmimnlbkllgfpaaGreatDoorW.PrintMore
attribute [local go_sem] max2_int min2_int max_two min_two max_three min_three max_four min_four   -- for this text's walks alone
set_option linter.unusedVariables false
set_option linter.unusedSimpArgs false

/-! ### mosaicref31_Table_Link: function 17 -/
def mosaicref31_Table_Link.l0 : Nat → List Int → List (S42) → Int → ByteArray → ByteArray → List Int → List (S40) → Option (ByteArray × Int)
 | 0, _, _, _, _, _, _, _ => none
 | k + 1, x12, x15, x16, x275000, x275001, x275002, x275003 => if x16 < (x15.length : Int) then (if 0 ≤ x16 then ((mosaicref09_Has.f k x12 ((rd_T42 x15 x16).f1)).bind fun t279 => (if t279 = true then (if x275002.length < 17592186044416 then (if x275003.length < 8796093022208 then (mosaicref31_Table_Link.l0 k x12 x15 (wrap64 (x16 + 1)) x275000 x275001 (x275002 ++ [(rd_T42 x15 x16).f1]) (x275003 ++ [(⟨(rd_T42 x15 x16).f2.f0, (rd_T42 x15 x16).f2.f1⟩ : S40)])) else (none)) else (none)) else (mosaicref31_Table_Link.l0 k x12 x15 (wrap64 (x16 + 1)) x275000 x275001 x275002 x275003))) else (none)) else ((mosaicref29_Text.f k x275000 x275001 x275002 x275003).bind fun bt288 => (some (bt288.1, bt288.2)))
def mosaicref31_Table_Link.f (k : Nat) (a0_0 : Int) (l0_1 : List (S42)) (a1 : ByteArray) (a2 : ByteArray) (a3_0 : Int) (a3_1 : Int) (a4 : Int) : Option (ByteArray × Int) := (mosaicref31_Table_Find.f k a0_0 l0_1 a1 a3_0 a3_1 6 a4).bind fun bt270 => (if bt270.2 = 0 then ((mosaicref31_Table_Nodes.f k a0_0 l0_1 a1 a4).bind fun t275 => (mosaicref31_Table_Link.l0 k bt270.1 t275 0 a1 a2 ([] : List Int) ([] : List (S40)))) else (some ((⟨#[]⟩ : ByteArray), bt270.2)))
def mosaicref31_Table_Link.T10 : Bool × List (List Nat × List Nat) := (true, [([], []), ([0], [0]), ([], []), ([], []), ([2, 3], [2, 3]), ([4], [4]), ([5], [5]), ([6], [6]), ([1, 7], [1, 7]), ([0, 1, 2, 3, 4, 5, 6, 7, 8], []), ([9, 8, 8, 0, 1, 2, 3, 4, 5, 6, 7, 8], [8, 9])])
def mosaicref31_Table_Link.B10 : List Nat := [0, 1, 0, 0, 12, 28, 60, 124, 255, 511, 1023]
theorem mosaicref31_Table_Link.tab10 : rtab .any (opsOf Tryz.f17 10) = mosaicref31_Table_Link.T10 := by kernel_rfl
theorem mosaicref31_Table_Link.bits10 : waitsOk mosaicref31_Table_Link.T10.2 mosaicref31_Table_Link.B10 = true := by kernel_rfl
def mosaicref31_Table_Link.T11 : Bool × List (List Nat × List Nat) := (true, [([], []), ([0], [0]), ([], []), ([], []), ([2, 3], [2, 3]), ([4], [4]), ([5], [5]), ([6], [6]), ([1, 7], [1, 7]), ([0, 1, 2, 3, 4, 5, 6, 7, 8], []), ([9, 8, 8, 0, 1, 2, 3, 4, 5, 6, 7, 8], [8, 9])])
def mosaicref31_Table_Link.B11 : List Nat := [0, 1, 0, 0, 12, 28, 60, 124, 255, 511, 1023]
theorem mosaicref31_Table_Link.tab11 : rtab .any (opsOf Tryz.f17 11) = mosaicref31_Table_Link.T11 := by kernel_rfl
theorem mosaicref31_Table_Link.bits11 : waitsOk mosaicref31_Table_Link.T11.2 mosaicref31_Table_Link.B11 = true := by kernel_rfl
namespace BAx15
theorem b0 {p : Prop} (h : p := by repeat (first | (with_reducible first | exact HB.out | apply below_alloc | apply pw_below_drewN | apply below_drew1 | refine below_set ?_ GE268.out | refine below_set ?_ GE269.out | refine below_set ?_ GE274.out) | exact HB.out)) : p := h
theorem b1 {p : Prop} (h : p := by repeat (first | (with_reducible first | exact HB.out | apply below_alloc | apply pw_below_drewN | apply below_drew1 | refine below_set ?_ GE268.out | refine below_set ?_ GE269.out) | exact HB.out)) : p := h
theorem b2 {p : Prop} (h : p := by repeat (first | (with_reducible first | exact HB.out | apply below_alloc | apply pw_below_drewN | apply below_drew1 | refine below_set ?_ GE268.out) | exact HB.out)) : p := h
theorem b3 {p : Prop} (h : p := by (with_reducible repeat (first | apply Kd.R_alloc | apply Kd.R_drewN | apply Kd.R_drew)); exact HO_275003.out) : p := h
theorem b4 {p : Prop} (h : p := by (try simp only [List.map_toArray, List.map_cons, List.map_nil]); first | done | rfl | (simp only [List.length_drop, List.length_take]; rfl)) : p := h
theorem b5 {p : Prop} (h : p := by first | (with_reducible assumption) | assumption) : p := h
theorem b6 {p : Prop} (h : p := by repeat (first | (with_reducible first | exact HB.out | apply below_alloc | apply pw_below_drewN | apply below_drew1) | exact HB.out)) : p := h
theorem b7 {p : Prop} (h : p := by (with_reducible repeat (first | apply Kd.R_alloc | apply Kd.R_drewN | apply Kd.R_drew)); exact HO_275002.out) : p := h
theorem b8 {p : Prop} (h : p := by (with_reducible repeat (first | apply Kd.R_alloc | apply Kd.R_drewN | apply Kd.R_drew)); exact HO_12.out) : p := h
theorem b9 {p : Prop} (h : p := by (with_reducible repeat (first | apply Kd.R_alloc | apply Kd.R_drewN | apply Kd.R_drew)); exact HO_15.out) : p := h
theorem b10 {p : Prop} (h : p := by first | rfl | (simp; done) | (simp [*]; done)) : p := h
theorem b11 {p : Prop} (h : p := by repeat (first | exact Drawn0.refl _ | apply Drawn0.step)) : p := h
end BAx15
open BAx15
set_option maxHeartbeats 8000000 in
set_option maxRecDepth 100000 in
theorem mosaicref31_Table_Link.calls (k : Nat) (a0_0 : Int) (A0_1 : Option Addr) (c0_1 : Nat) (l0_1 : List (S42)) (a1 : ByteArray) (a2 : ByteArray) (a3_0 : Int) (a3_1 : Int) (a4 : Int) (r1 : ByteArray) (r2 : Int) (w : World) (hr0_1 : Kd.C k42 w A0_1 l0_1.length l0_1) (hc0_1 : l0_1.length ≤ c0_1) (h : mosaicref31_Table_Link.f k a0_0 l0_1 a1 a2 a3_0 a3_1 a4 = some (r1, r2)) :
  Calls Tryz.prog 17 #[.agg #[.int .i64 a0_0, .slice A0_1 l0_1.length c0_1], .string a1, .string a2, .agg #[.int .i64 a3_0, .int .i64 a3_1], .int .i64 a4] w fun e w' => e = .returned (.tuple #[.string r1, .int .i64 r2]) ∧ Below w.heap.size w w' := by
 have hu33 := Tryz.underlying33
 have hu40 := Tryz.underlying40
 have hu95 := Tryz.underlying95
 have HR0_1 := Aside0.mk hr0_1
 have HC0_1 := Aside0.mk hc0_1
 clear hr0_1 hc0_1
 have HB := Aside0.mk (Below.refl w.heap.size w)
 have H : ((mosaicref31_Table_Find.f k a0_0 l0_1 a1 a3_0 a3_1 6 a4).bind fun bt270 => (if bt270.2 = 0 then ((mosaicref31_Table_Nodes.f k a0_0 l0_1 a1 a4).bind fun t275 => (mosaicref31_Table_Link.l0 k bt270.1 t275 0 a1 a2 ([] : List Int) ([] : List (S40)))) else (some ((⟨#[]⟩ : ByteArray), bt270.2)))) = some (r1, r2) := h
 clear h
 replace H := Option.bind_eq_some_iff.mp H
 obtain ⟨⟨t270, t273⟩, A60, H⟩ := H
 have A6 := Aside0.mk A60
 clear A60
 by_cases c7 : t273 = 0
 ·
  rw [if_pos c7] at H
  have c7b0 := beq_iff_eq.mpr c7
  have c7b1 := bne_eq_false_iff_eq.mpr c7
  clear c7
  replace H := Option.bind_eq_some_iff.mp H
  obtain ⟨t275, A80, H⟩ := H
  have A8 := Aside0.mk A80
  clear A80
  have H' := Aside0.mk H
  clear H
  go_enter Tryz.func17, Tryz.ntmps17
  go_wp2_with (first | ((with_reducible refine gate_dst (N := 5) rfl ?_); refine box_event ?hg (N := 5) ?hd (cs := #[.int .i64 a0_0, .slice A0_1 l0_1.length c0_1]) (t := 33) ?hr ?_; (case hd => rfl); (case hg => rfl); (case hr => first | (go_simp; done) | (go_simp; rfl)); intro gb268 hg w9 hbox hb; have BK268 := Aside0.mk (hbox); have GW268 := Aside0.mk ((by rw [hg]; exact (below_size b6) : w.heap.size ≤ gb268)); have GE268 := Aside0.mk ((by rw [hg]; exact (below_size b6) : w.heap.size ≤ gb268)); replace HB := Aside0.mk (below_step b6 hb); clear hb hbox hg) | ((with_reducible refine gate_dst (N := 8) rfl ?_); refine box_event ?hg (N := 8) ?hd (cs := #[.int .i64 a3_0, .int .i64 a3_1]) (t := 40) ?hr ?_; (case hd => rfl); (case hg => rfl); (case hr => first | (go_simp; done) | (go_simp; rfl)); intro gb269 hg w10 hbox hb; have BK269 := Aside0.mk (hbox); have GW269 := Aside0.mk ((by rw [hg]; exact (below_size b2) : w.heap.size ≤ gb269)); have GE269 := Aside0.mk ((by rw [hg]; exact (below_size b2) : w.heap.size ≤ gb269)); replace HB := Aside0.mk (below_step b2 hb); have NB268_269 := bNl BK268 hg; have NB269_268 := bNg BK268 hg; replace BK268 := bB BK268 hb; clear hb hbox hg; have hnb11 := NB268_269.out; have hnc11 := NB269_268.out; have ⟨_, _, _, _⟩ := cc2 BK268; have ⟨_, _, _, _⟩ := cc2 BK269) | ((with_reducible refine gate_callee (f := 14) rfl ?_); refine goesL_ (some 22) rfl rfl Tryz.func14 (by kernel_rfl) rfl #[.agg #[.int .i64 a0_0, .slice A0_1 l0_1.length c0_1], .string a1, .agg #[.int .i64 a3_0, .int .i64 a3_1], .int .i64 6, .int .i64 a4] rfl b4 ?_; (with_reducible refine (mosaicref31_Table_Find.calls k a0_0 _ _ l0_1 a1 a3_0 a3_1 6 a4 t270 t273 _ ?side1 ?side2 A6.out).mono ?_); (case side1 => repeat (first | exact (Kd.C_below HR0_1.out HB.out) | (with_reducible refine Kd.C_alloc ?_ _) | (with_reducible refine Kd.C_drewN ?_ _) | (with_reducible refine Kd.C_drew ?_))); (case side2 => exact HC0_1.out); rintro e w14 ⟨v271, rfl, ho0, hb⟩; refine ⟨_, rfl, ?_⟩; have HO272 := Aside0.mk (Kd.R_lower ho0 (below_size b1)); replace BK268 := bB BK268 hb; replace BK269 := bB BK269 hb; replace HB := Aside0.mk (below_step b1 hb); (try clear hb); (try clear hb2); (try clear hk); (try clear hi); (try clear ho0)) | ((with_reducible refine gate_dst (N := 14) rfl ?_); refine box_event ?hg (N := 14) ?hd (cs := #[.string (⟨#[]⟩ : ByteArray), .string (⟨#[]⟩ : ByteArray), .slice none 0 0, .slice none 0 0]) (t := 95) ?hr ?_; (case hd => rfl); (case hg => rfl); (case hr => first | (go_simp; done) | (go_simp; rfl)); intro gb274 hg w15 hbox hb; replace HO272 := Aside0.mk (Kd.R_below (by (with_reducible repeat (first | apply Kd.R_alloc | apply Kd.R_drewN | apply Kd.R_drew)); exact HO272.out) hb); have BK274 := Aside0.mk (hbox); have GW274 := Aside0.mk ((by rw [hg]; exact (below_size b1) : w.heap.size ≤ gb274)); have GE274 := Aside0.mk ((by rw [hg]; exact (below_size b1) : w.heap.size ≤ gb274)); replace HB := Aside0.mk (below_step b1 hb); have NB268_274 := bNl BK268 hg; have NB274_268 := bNg BK268 hg; replace BK268 := bB BK268 hb; have NB269_274 := bNl BK269 hg; have NB274_269 := bNg BK269 hg; replace BK269 := bB BK269 hb; clear hb hbox hg; have hnb16 := NB274_268.out; have hnc16 := NB268_274.out; have hnb17 := NB274_269.out; have hnc17 := NB269_274.out; have ⟨_, _, _, _, _, _, _, _⟩ := cc4 BK274; have ⟨_, _, _, _⟩ := cc2 BK268) | ((with_reducible refine gate_callee (f := 21) rfl ?_); refine goesL_ (some 34) rfl rfl Tryz.func21 (by kernel_rfl) rfl #[.agg #[.int .i64 a0_0, .slice A0_1 l0_1.length c0_1], .string a1, .int .i64 a4] rfl b4 ?_; (with_reducible refine (mosaicref31_Table_Nodes.calls k a0_0 _ _ l0_1 a1 a4 t275 _ ?side1 ?side2 A8.out).mono ?_); (case side1 => exact Kd.C_below HR0_1.out b0); (case side2 => exact HC0_1.out); rintro e w20 ⟨v276, rfl, ho0, hb⟩; refine ⟨_, rfl, ?_⟩; replace HO272 := Aside0.mk (Kd.R_below (by (with_reducible repeat (first | apply Kd.R_alloc | apply Kd.R_drewN | apply Kd.R_drew)); exact (Kd.R_mono (Kd.R_far (p := ⟨gb274, 3, none⟩) (Kd.R_far (p := ⟨gb274, 2, none⟩) (Kd.R_far (p := ⟨gb274, 1, none⟩) (Kd.R_far (p := ⟨gb274, 0, none⟩) (Kd.R_types HO272.out BK274.out (by decide)) (fun _ hk => hk.2) (.string a1)) (fun _ hk => hk.2) (.string a2)) (fun _ hk => hk.2) (.slice none 0 0)) (fun _ hk => hk.2) (.slice none 0 0)) (fun _ h_ => h_.1))) hb); have HO277 := Aside0.mk (Kd.R_lower ho0 (below_size b0)); replace BK268 := Aside0.mk (blk_below (g := gb268) (o := .cells #[.int .i64 a0_0, .slice A0_1 l0_1.length c0_1] 33 (0, 0)) (by (with_reducible repeat (first | refine blk_drewN ?_ _ | refine blk_drew ?_ | refine blk_alloc ?_ _)); refine blk_far ?_ NB268_274.out _; (with_reducible repeat (first | refine blk_drewN ?_ _ | refine blk_drew ?_ | refine blk_alloc ?_ _)); refine blk_far ?_ NB268_274.out _; (with_reducible repeat (first | refine blk_drewN ?_ _ | refine blk_drew ?_ | refine blk_alloc ?_ _)); refine blk_far ?_ NB268_274.out _; (with_reducible repeat (first | refine blk_drewN ?_ _ | refine blk_drew ?_ | refine blk_alloc ?_ _)); refine blk_far ?_ NB268_274.out _; (with_reducible repeat (first | refine blk_drewN ?_ _ | refine blk_drew ?_ | refine blk_alloc ?_ _)); exact BK268.out) hb); replace BK269 := Aside0.mk (blk_below (g := gb269) (o := .cells #[.int .i64 a3_0, .int .i64 a3_1] 40 (0, 0)) (by (with_reducible repeat (first | refine blk_drewN ?_ _ | refine blk_drew ?_ | refine blk_alloc ?_ _)); refine blk_far ?_ NB269_274.out _; (with_reducible repeat (first | refine blk_drewN ?_ _ | refine blk_drew ?_ | refine blk_alloc ?_ _)); refine blk_far ?_ NB269_274.out _; (with_reducible repeat (first | refine blk_drewN ?_ _ | refine blk_drew ?_ | refine blk_alloc ?_ _)); refine blk_far ?_ NB269_274.out _; (with_reducible repeat (first | refine blk_drewN ?_ _ | refine blk_drew ?_ | refine blk_alloc ?_ _)); refine blk_far ?_ NB269_274.out _; (with_reducible repeat (first | refine blk_drewN ?_ _ | refine blk_drew ?_ | refine blk_alloc ?_ _)); exact BK269.out) hb); replace BK274 := Aside0.mk (blk_below (g := gb274) (o := .cells #[.string a1, .string a2, .slice none 0 0, .slice none 0 0] 95 (0, 0)) (by (with_reducible repeat (first | refine blk_drewN ?_ _ | refine blk_drew ?_ | refine blk_alloc ?_ _)); refine blk_put (cs := #[.string a1, .string a2, .slice none 0 0, .slice none 0 0]) ?_ 3 _ rfl; (with_reducible repeat (first | refine blk_drewN ?_ _ | refine blk_drew ?_ | refine blk_alloc ?_ _)); refine blk_put (cs := #[.string a1, .string a2, .slice none 0 0, .slice none 0 0]) ?_ 2 _ rfl; (with_reducible repeat (first | refine blk_drewN ?_ _ | refine blk_drew ?_ | refine blk_alloc ?_ _)); refine blk_put (cs := #[.string a1, .string (⟨#[]⟩ : ByteArray), .slice none 0 0, .slice none 0 0]) ?_ 1 _ rfl; (with_reducible repeat (first | refine blk_drewN ?_ _ | refine blk_drew ?_ | refine blk_alloc ?_ _)); refine blk_put (cs := #[.string (⟨#[]⟩ : ByteArray), .string (⟨#[]⟩ : ByteArray), .slice none 0 0, .slice none 0 0]) ?_ 0 _ rfl; (with_reducible repeat (first | refine blk_drewN ?_ _ | refine blk_drew ?_ | refine blk_alloc ?_ _)); exact BK274.out) hb); replace HB := Aside0.mk (below_step b0 hb); (try clear hb); (try clear hb2); (try clear hk); (try clear hi); (try clear ho0)))
  go_loopg [16] k (fun kq v16 w' => ∃ (x16_1 : Int) (x275002_1 : List Int) (x275003_1 : List (S40)) (u275002 : Value) (u275003 : Value), v16 = .int .i64 x16_1 ∧ Aside0 (mosaicref31_Table_Link.l0 kq t270 t275 x16_1 a1 a2 x275002_1 x275003_1 = some (r1, r2)) ∧ Aside0 (kq ≤ k) ∧ Aside0 (Kd.R (Kd.int .i64) 3 w' w.heap.size (fun k_ => some k_ ≠ (u275002 : Value).ownBlock) v271 t270) ∧ Aside0 (Kd.R k42 42 w' w.heap.size (fun _ => True) v276 t275) ∧ Aside0 (Kd.R (Kd.int .i64) 3 w' w.heap.size (fun k_ => some k_ ≠ (v271 : Value).ownBlock) u275002 x275002_1) ∧ Aside0 (Kd.R k40 40 w' w.heap.size (fun k_ => k_ ≠ gb269) u275003 x275003_1) ∧ Aside0 (w'.heap[gb268]? = some (.cells #[.int .i64 a0_0, (.slice A0_1 l0_1.length c0_1)] 33 (0, 0))) ∧ Aside0 (w'.heap[gb269]? = some (.cells #[.int .i64 a3_0, .int .i64 a3_1] 40 (0, 0))) ∧ Aside0 (w'.heap[gb274]? = some (.cells #[.string a1, .string a2, u275002, u275003] 95 (0, 0))) ∧ Aside0 (Below w.heap.size w w'))
  case atStart => exact ⟨(0), (([] : List Int)), (([] : List (S40))), (.slice none 0 0), (.slice none 0 0), b10, H', ⟨Nat.le_refl _⟩, ⟨by (with_reducible repeat (first | apply Kd.R_alloc | apply Kd.R_drewN | apply Kd.R_drew)); exact Kd.R_mono HO272.out (fun _ hk => (by simp [Value.ownBlock]))⟩, ⟨by (with_reducible repeat (first | apply Kd.R_alloc | apply Kd.R_drewN | apply Kd.R_drew)); exact HO277.out⟩, ⟨by first | exact Kd.R_nil _ _ _ _ _ | exact Kd.N_nil _ _ _ _ _ | exact Kd.V_nil _ _ _ _ _ | exact Kd.Q_nil _ _ _ _ _ | exact Kd.S_nil _ _ _ _ _⟩, ⟨by first | exact Kd.R_nil _ _ _ _ _ | exact Kd.N_nil _ _ _ _ _ | exact Kd.V_nil _ _ _ _ _ | exact Kd.Q_nil _ _ _ _ _ | exact Kd.S_nil _ _ _ _ _⟩, ⟨by (with_reducible repeat (first | refine blk_drewN ?_ _ | refine blk_drew ?_ | refine blk_alloc ?_ _)); exact BK268.out⟩, ⟨by (with_reducible repeat (first | refine blk_drewN ?_ _ | refine blk_drew ?_ | refine blk_alloc ?_ _)); exact BK269.out⟩, ⟨by (with_reducible repeat (first | refine blk_drewN ?_ _ | refine blk_drew ?_ | refine blk_alloc ?_ _)); exact BK274.out⟩, ⟨b0⟩⟩
  case round =>
   clear H'
   try clear c7
   try clear c7b0
   try clear c7b1
   try clear hcz12_0
   try clear hcz12_1
   try clear hcz13_0
   try clear hcz13_1
   try clear hcz18_0
   try clear hcz18_1
   try clear hcz18_2
   try clear hcz18_3
   try clear hcz19_0
   try clear hcz19_1
   try clear hfz12_0
   try clear hfz12_1
   try clear hfz13_0
   try clear hfz13_1
   try clear hfz18_0
   try clear hfz18_1
   try clear hfz18_2
   try clear hfz18_3
   try clear hfz19_0
   try clear hfz19_1
   obtain ⟨x16_1, x275002_1, x275003_1, u275002, u275003, rfl, HA, HK1, HO_12, HO_15, HO_275002, HO_275003, BK268, BK269, BK274, HB⟩ := hrel
   cases gk with
   | zero => exact absurd HA.out (by simp [mosaicref31_Table_Link.l0])
   | succ k1 =>
    have H := HA.out
    clear HA
    simp only [mosaicref31_Table_Link.l0] at H
    by_cases c21 : x16_1 < (t275.length : Int)
    ·
     rw [if_pos c21] at H
     have c21b0 := decide_eq_true c21
     clear c21
     by_cases c22 : 0 ≤ x16_1
     rotate_left; · rw [if_neg c22] at H; exact absurd H (by simp)
     rw [if_pos c22] at H
     have c22b0 := decide_eq_true c22
     clear c22
     replace H := Option.bind_eq_some_iff.mp H
     obtain ⟨t279, A230, H⟩ := H
     have A23 := Aside0.mk A230
     clear A230
     by_cases c24 : t279 = true
     ·
      subst c24
      rw [if_pos rfl] at H
      by_cases c25 : x275002_1.length < 17592186044416
      rotate_left; · rw [if_neg c25] at H; exact absurd H (by simp)
      rw [if_pos c25] at H
      have LMc25 := Aside0.mk c25
      clear c25
      obtain ⟨y281, hy281⟩ : ∃ y_ : List Int, y_ = (x275002_1 ++ [(rd_T42 t275 x16_1).f1]) := ⟨_, rfl⟩
      replace H : (if x275003_1.length < 8796093022208 then (mosaicref31_Table_Link.l0 k1 t270 t275 (wrap64 (x16_1 + 1)) a1 a2 y281 (x275003_1 ++ [(⟨(rd_T42 t275 x16_1).f2.f0, (rd_T42 t275 x16_1).f2.f1⟩ : S40)])) else (none)) = some (r1, r2) := by first | (rw [hy281]; with_reducible exact H) | (have H2_ := (Option.bind_some _ _).symm.trans H; rw [hy281]; with_reducible exact H2_) | (have H2_ := (Option.bind_some _ _).symm.trans H; with_reducible exact H2_) | with_reducible exact H | (rw [hy281]; exact H) | exact H
      have Ny281 := Aside0.mk hy281
      clear hy281
      by_cases c26 : x275003_1.length < 8796093022208
      rotate_left; · rw [if_neg c26] at H; exact absurd H (by simp)
      rw [if_pos c26] at H
      have LMc26 := Aside0.mk c26
      clear c26
      obtain ⟨y285, hy285⟩ : ∃ y_ : List (S40), y_ = (x275003_1 ++ [(⟨(rd_T42 t275 x16_1).f2.f0, (rd_T42 t275 x16_1).f2.f1⟩ : S40)]) := ⟨_, rfl⟩
      replace H : (mosaicref31_Table_Link.l0 k1 t270 t275 (wrap64 (x16_1 + 1)) a1 a2 y281 y285) = some (r1, r2) := by first | (rw [hy285]; with_reducible exact H) | (have H2_ := (Option.bind_some _ _).symm.trans H; rw [hy285]; with_reducible exact H2_) | (have H2_ := (Option.bind_some _ _).symm.trans H; with_reducible exact H2_) | with_reducible exact H | (rw [hy285]; exact H) | exact H
      have Ny285 := Aside0.mk hy285
      clear hy285
      have H' := Aside0.mk H
      clear H
      obtain ⟨Ao27, co27, eo27⟩ := Kd.R_slice HO_15.out
      subst eo27
      have p278 : 0 ≤ (x16_1 : Int) := of_decide_eq_true b5
      have q278 : x16_1 < (t275.length : Int) := of_decide_eq_true b5
      obtain ⟨ad278, e278, hx278_0, hx278_1, hx278_2, hx278_3, hx278_4⟩ := at_T42 (Kd.R_reads' HO_15.out).2.2 x16_1 p278 q278
      cases e278
      replace p278 := eq_true p278
      replace q278 := eq_true q278
      obtain ⟨Ao28, co28, eo28⟩ := Kd.R_slice HO_12.out
      subst eo28
      try go_wp2_with (first | ((with_reducible refine gate_callee (f := 42) rfl ?_); refine goesL_ (some 47) rfl rfl Tryz.func42 (by kernel_rfl) rfl #[.slice Ao28 t270.length co28, .int .i64 ((rd_T42 t275 x16_1).f1)] rfl b4 ?_; (with_reducible refine (mosaicref09_Has.calls k1 _ _ t270 ((rd_T42 t275 x16_1).f1) true _ ?side1 ?side2 A23.out).mono ?_); (case side1 => repeat (first | exact (Kd.R_reads' HO_12.out).2.2 | (with_reducible refine Kd.C_alloc ?_ _) | (with_reducible refine Kd.C_drewN ?_ _) | (with_reducible refine Kd.C_drew ?_))); (case side2 => exact (Kd.R_reads' HO_12.out).2.1); rintro e w' ⟨rfl, ⟨nd, rfl⟩⟩; refine ⟨_, rfl, ?_⟩; (try (rw [drewN_self wr]; generalize hq_ : World.drewN wr _ = wr; have n0_ : Aside0 (Kd.R (Kd.int .i64) 3 wr w.heap.size (fun k_ => some k_ ≠ (u275002 : Value).ownBlock) (.slice Ao28 t270.length co28) t270) := ⟨by rw [← hq_]; exact b8⟩; have n1_ : Aside0 (Kd.R k42 42 wr w.heap.size (fun _ => True) (.slice (some ad278) t275.length co27) t275) := ⟨by rw [← hq_]; exact b9⟩; have n2_ : Aside0 (Kd.R (Kd.int .i64) 3 wr w.heap.size (fun k_ => some k_ ≠ (.slice Ao28 t270.length co28 : Value).ownBlock) u275002 x275002_1) := ⟨by rw [← hq_]; exact b7⟩; have n3_ : Aside0 (Kd.R k40 40 wr w.heap.size (fun k_ => k_ ≠ gb269) u275003 x275003_1) := ⟨by rw [← hq_]; exact b3⟩; have n4_ : Aside0 (wr.heap[gb268]? = some (.cells #[.int .i64 a0_0, .slice A0_1 l0_1.length c0_1] 33 (0, 0))) := ⟨by rw [← hq_]; exact (by exact bS BK268)⟩; have n5_ : Aside0 (wr.heap[gb269]? = some (.cells #[.int .i64 a3_0, .int .i64 a3_1] 40 (0, 0))) := ⟨by rw [← hq_]; exact (by exact bS BK269)⟩; have n6_ : Aside0 (wr.heap[gb274]? = some (.cells #[.string a1, .string a2, u275002, u275003] 95 (0, 0))) := ⟨by rw [← hq_]; exact (by exact bS BK274)⟩; have n7_ : Aside0 (Below w.heap.size w wr) := ⟨by rw [← hq_]; exact b0⟩; clear HO_12 HO_15 HO_275002 HO_275003 BK268 BK269 BK274 HB hq_; have HO_12 := n0_; have HO_15 := n1_; have HO_275002 := n2_; have HO_275003 := n3_; have BK268 := n4_; have BK269 := n5_; have BK274 := n6_; have HB := n7_; clear n0_ n1_ n2_ n3_ n4_ n5_ n6_ n7_))))
      have n0_ := Aside0.mk (Kd.R_drew HO_12.out)
      have n1_ := Aside0.mk (Kd.R_drew HO_15.out)
      have n2_ := Aside0.mk (Kd.R_drew HO_275002.out)
      have n3_ := Aside0.mk (Kd.R_drew HO_275003.out)
      have n4_ := Aside0.mk (blk_drew BK268.out)
      have n5_ := Aside0.mk (blk_drew BK269.out)
      have n6_ := Aside0.mk (blk_drew BK274.out)
      have n7_ := Aside0.mk (below_drew1 HB.out)
      clear HO_12 HO_15 HO_275002 HO_275003 BK268 BK269 BK274 HB
      have HO_12 := n0_
      have HO_15 := n1_
      have HO_275002 := n2_
      have HO_275003 := n3_
      have BK268 := n4_
      have BK269 := n5_
      have BK274 := n6_
      have HB := n7_
      clear n0_ n1_ n2_ n3_ n4_ n5_ n6_ n7_
      have p280 : 0 ≤ (x16_1 : Int) := of_decide_eq_true b5
      have q280 : x16_1 < (t275.length : Int) := of_decide_eq_true b5
      obtain ⟨ad280, e280, hx280_0, hx280_1, hx280_2, hx280_3, hx280_4⟩ := at_T42 (Kd.R_reads' HO_15.out).2.2 x16_1 p280 q280
      obtain rfl : ad278 = ad280 := (by injection e280)
      replace p280 := eq_true p280
      replace q280 := eq_true q280
      refine start_ (n := 11) (S := fun w' => w'.cell? ⟨gb274, 0, none⟩ = some (.string a1) ∧ w'.cell? ⟨gb274, 1, none⟩ = some (.string a2) ∧ w'.cell? ⟨gb274, 2, none⟩ = some (u275002) ∧ w'.cell? ⟨gb274, 3, none⟩ = some (u275003) ∧ w'.cell? (ad278.add ((x16_1).toNat * 5)) = some (.string ((rd_T42 t275 x16_1).f0)) ∧ w'.cell? ⟨(ad278.add ((x16_1).toNat * 5)).block, (ad278.add ((x16_1).toNat * 5)).off + 1, none⟩ = some (.int .i64 ((rd_T42 t275 x16_1).f1)) ∧ w'.cell? ⟨(ad278.add ((x16_1).toNat * 5)).block, (ad278.add ((x16_1).toNat * 5)).off + 2, none⟩ = some (.int .i64 ((rd_T42 t275 x16_1).f2.f0)) ∧ w'.cell? ⟨(ad278.add ((x16_1).toNat * 5)).block, (ad278.add ((x16_1).toNat * 5)).off + 3, none⟩ = some (.int .i64 ((rd_T42 t275 x16_1).f2.f1)) ∧ w'.cell? ⟨(ad278.add ((x16_1).toNat * 5)).block, (ad278.add ((x16_1).toNat * 5)).off + 4, none⟩ = some (.int .i64 ((rd_T42 t275 x16_1).f3))) (ds := [8, 10]) (fB 11 0) (by kernel_rfl) rfl rfl ⟨(blk_cell BK274.out 0).trans rfl, (blk_cell BK274.out 1).trans rfl, (blk_cell BK274.out 2).trans rfl, (blk_cell BK274.out 3).trans rfl, hx280_0, hx280_1, hx280_2, hx280_3, hx280_4⟩ (fun hHeld => ?_); refine with_tabW mosaicref31_Table_Link.tab10 mosaicref31_Table_Link.bits10 (fun HT_ HW_ => ?_)
      generalize wr.drew = w29 at HO_12 HO_15 HO_275002 HO_275003 BK268 BK269 BK274 HB hx280_0 hx280_1 hx280_2 hx280_3 hx280_4 hHeld ⊢
      refine pS 0 48 11 1 HT_ ?_
      refine pS 2 50 11 5 HT_ ?_
      refine pS 3 51 11 13 HT_ ?_
      refine pS 4 52 11 29 HT_ ?_
      refine pS 5 53 11 61 HT_ ?_
      refine tS 1 49 11 63 HT_ HW_ hHeld ?_
      refine tS 6 54 11 127 HT_ HW_ hHeld ?_
      refine one_ (i := 7) (N := some 55) (fB 11 255) rfl rfl (one_of HT_.out (by kernel_rfl)) (by decide) (fun K hK => ?_)
      refine value_ (w1 := ?_) (v := ?_) (by rfl) rfl ?_ ?_
      rotate_left 2
      ·
       go_simp
       constructor
       ·
        rfl
       ·
        rfl
      refine hK.out _ _ ⟨(blk_cell (blk_alloc BK274.out _) 0).trans rfl, (blk_cell (blk_alloc BK274.out _) 1).trans rfl, (blk_cell (blk_alloc BK274.out _) 2).trans rfl, (blk_cell (blk_alloc BK274.out _) 3).trans rfl, (World.cell?_alloc_lt _ _ _ (World.block_lt_of_cell? _ _ (hHeld.2.2.2.2.1))).trans (hHeld.2.2.2.2.1), (World.cell?_alloc_lt _ _ _ (World.block_lt_of_cell? _ _ (hHeld.2.2.2.2.2.1))).trans (hHeld.2.2.2.2.2.1), (World.cell?_alloc_lt _ _ _ (World.block_lt_of_cell? _ _ (hHeld.2.2.2.2.2.2.1))).trans (hHeld.2.2.2.2.2.2.1), (World.cell?_alloc_lt _ _ _ (World.block_lt_of_cell? _ _ (hHeld.2.2.2.2.2.2.2.1))).trans (hHeld.2.2.2.2.2.2.2.1), (World.cell?_alloc_lt _ _ _ (World.block_lt_of_cell? _ _ (hHeld.2.2.2.2.2.2.2.2))).trans (hHeld.2.2.2.2.2.2.2.2)⟩ (fun hHeld => ?_)
      clear hK K
      refine norm_ (a' := ?_) ?_ ?_
      rotate_left; · show Act.put _ (some 55) _ = _; simp only [Act.put, sA, sB, sC, i64_w, i32_w, sD]; rfl
      refine last_ (i := 8) (N := some 56) (fB 11 511) rfl rfl (one_of HT_.out (by kernel_rfl)) (by decide) (fun K hK => ?_)
      refine Kd.R_append_step (Kd.int .i64) (w0 := w) w.heap.size (by rfl) (.tmp 49) (.tmp 55) 48 3 (.int .i64 0) 8 rfl Tryz.underlying48 info3 rfl (by decide) (by omega) u275002 x275002_1 ((rd_T42 t275 x16_1).f1) [.int .i64 ((rd_T42 t275 x16_1).f1)] (fun k_ => some k_ ≠ (.slice Ao28 t270.length co28 : Value).ownBlock) (fun _ => False) rfl rfl ?aP (fun _ hk => hk.elim) ?aF ?aO ?aB ?aS ?aL ?_
      (case aP => exact rfl)
      (case aB => exact b0)
      (case aF => exact (fun k_ hk => Kd.fresh' (Kd.R_lt b8) k_ hk))
      (case aO => exact b7)
      (case aS => exact (below_size b0))
      (case aL => have := LMc25.out; omega)
      intro v282 w30 ho hb hg hat
      rw [← Ny281.out] at ho
      have n0_ := Aside0.mk (Kd.R_after (ok := (fun _ => True)) (by (with_reducible repeat (first | apply Kd.R_alloc | apply Kd.R_drewN | apply Kd.R_drew)); exact Kd.R_mono HO_12.out (fun _ hk => ⟨trivial, hk⟩)) hg hat)
      have n1_ := Aside0.mk (Kd.R_over' b9 (Kd.R_typed b7) (by decide) hg)
      have n2_ := Aside0.mk (Kd.R_over' b3 (Kd.R_typed b7) (by decide) hg)
      have n3_ := Aside0.mk (blk_grown (g := gb268) (o := .cells #[.int .i64 a0_0, .slice A0_1 l0_1.length c0_1] 33 (0, 0)) (by exact bS BK268) hg (Kd.R_ne HO_275002.out BK268.out (by decide)))
      have n4_ := Aside0.mk (blk_grown (g := gb269) (o := .cells #[.int .i64 a3_0, .int .i64 a3_1] 40 (0, 0)) (by exact bS BK269) hg (Kd.R_ne HO_275002.out BK269.out (by decide)))
      have n5_ := Aside0.mk (blk_grown (g := gb274) (o := .cells #[.string a1, .string a2, u275002, u275003] 95 (0, 0)) (by exact bS BK274) hg (Kd.R_ne HO_275002.out BK274.out (by decide)))
      have n6_ := Aside0.mk (hb)
      have n7_ := Aside0.mk (ho)
      clear HO_12 HO_15 HO_275003 BK268 BK269 BK274 HB HO_275002
      have HO_12 := n0_
      have HO_15 := n1_
      have HO_275003 := n2_
      have BK268 := n3_
      have BK269 := n4_
      have BK274 := n5_
      have HB := n6_
      have HO283 := n7_
      clear n0_ n1_ n2_ n3_ n4_ n5_ n6_ n7_ ho hb hg hat
      obtain ⟨Ao31, co31, eo31⟩ := Kd.R_slice HO283.out
      (first | subst eo31 | (injection eo31 with f1_ f2_ f3_; have f4_ := f1_.symm; have f5_ := f3_.symm; clear f1_ f2_ f3_; subst f4_; subst f5_))
      refine hK.out _ _ ?_
      clear hK K
      refine norm_ (a' := ?_) ?_ ?_
      rotate_left; · show Act.put _ (some 56) _ = _; simp only [Act.put, sA, sB, sC, i64_w, i32_w, sD]; rfl
      refine pS 9 57 11 1023 HT_ ?_
      refine last_ (i := 10) (N := none) (fB 11 2047) rfl rfl (one_of HT_.out (by kernel_rfl)) (by decide) (fun K hK => ?_)
      have hs32 : w30.cell? ⟨gb274, 2, none⟩ = some (u275002) := (blk_cell BK274.out 2).trans rfl
      have hfs32 := blk_frozen BK274.out 2
      have hns32_0 := NB268_274.out
      have hns32_1 := NB269_274.out
      have hms32_0 := NB274_268.out
      have hms32_1 := NB274_269.out
      refine skip_ (w1 := ?_) (by rfl) rfl ?_ ?_
      rotate_left
      ·
       go_simp
       rfl
      refine hK.out _ _ ?_
      clear hK K
      refine done_ (done_of HT_.out (by kernel_rfl)) ?_
      try go_wp2
      have n0_ : Aside0 (Kd.R (Kd.int .i64) 3 (w30.setCell ⟨gb274, 2, none⟩ (.slice Ao31 y281.length co31)) w.heap.size (fun k_ => some k_ ≠ (.slice Ao31 y281.length co31 : Value).ownBlock) (.slice Ao28 t270.length co28) t270) := ⟨by (with_reducible repeat (first | apply Kd.R_alloc | apply Kd.R_drewN | apply Kd.R_drew)); exact Kd.R_mono (Kd.R_far (p := ⟨gb274, 2, none⟩) (Kd.R_types HO_12.out BK274.out (by decide)) (fun _ hk => hk.2) (.slice Ao31 y281.length co31)) (fun _ hk => hk.1.2)⟩
      have n1_ : Aside0 (Kd.R k42 42 (w30.setCell ⟨gb274, 2, none⟩ (.slice Ao31 y281.length co31)) w.heap.size (fun _ => True) (.slice (some ad278) t275.length co27) t275) := ⟨by (with_reducible repeat (first | apply Kd.R_alloc | apply Kd.R_drewN | apply Kd.R_drew)); exact Kd.R_mono (Kd.R_far (p := ⟨gb274, 2, none⟩) (Kd.R_types HO_15.out BK274.out (by decide)) (fun _ hk => hk.2) (.slice Ao31 y281.length co31)) (fun _ hk => trivial)⟩
      have n2_ : Aside0 (Kd.R k40 40 (w30.setCell ⟨gb274, 2, none⟩ (.slice Ao31 y281.length co31)) w.heap.size (fun k_ => k_ ≠ gb269) u275003 x275003_1) := ⟨by (with_reducible repeat (first | apply Kd.R_alloc | apply Kd.R_drewN | apply Kd.R_drew)); exact Kd.R_mono (Kd.R_far (p := ⟨gb274, 2, none⟩) (Kd.R_types HO_275003.out BK274.out (by decide)) (fun _ hk => hk.2) (.slice Ao31 y281.length co31)) (fun _ hk => hk.1)⟩
      have n3_ : Aside0 (Kd.R (Kd.int .i64) 3 (w30.setCell ⟨gb274, 2, none⟩ (.slice Ao31 y281.length co31)) w.heap.size (fun k_ => some k_ ≠ (.slice Ao28 t270.length co28 : Value).ownBlock) (.slice Ao31 y281.length co31) y281) := ⟨by (with_reducible repeat (first | apply Kd.R_alloc | apply Kd.R_drewN | apply Kd.R_drew)); exact Kd.R_mono (Kd.R_far (p := ⟨gb274, 2, none⟩) (Kd.R_types HO283.out BK274.out (by decide)) (fun _ hk => hk.2) (.slice Ao31 y281.length co31)) (fun _ hk => hk.1)⟩
      have n4_ : Aside0 ((w30.setCell ⟨gb274, 2, none⟩ (.slice Ao31 y281.length co31)).heap[gb268]? = some (.cells #[.int .i64 a0_0, .slice A0_1 l0_1.length c0_1] 33 (0, 0))) := ⟨by (with_reducible repeat (first | refine blk_drewN ?_ _ | refine blk_drew ?_ | refine blk_alloc ?_ _)); refine blk_far ?_ NB268_274.out _; (with_reducible repeat (first | refine blk_drewN ?_ _ | refine blk_drew ?_ | refine blk_alloc ?_ _)); exact BK268.out⟩
      have n5_ : Aside0 ((w30.setCell ⟨gb274, 2, none⟩ (.slice Ao31 y281.length co31)).heap[gb269]? = some (.cells #[.int .i64 a3_0, .int .i64 a3_1] 40 (0, 0))) := ⟨by (with_reducible repeat (first | refine blk_drewN ?_ _ | refine blk_drew ?_ | refine blk_alloc ?_ _)); refine blk_far ?_ NB269_274.out _; (with_reducible repeat (first | refine blk_drewN ?_ _ | refine blk_drew ?_ | refine blk_alloc ?_ _)); exact BK269.out⟩
      have n6_ : Aside0 ((w30.setCell ⟨gb274, 2, none⟩ (.slice Ao31 y281.length co31)).heap[gb274]? = some (.cells #[.string a1, .string a2, .slice Ao31 y281.length co31, u275003] 95 (0, 0))) := ⟨by (with_reducible repeat (first | refine blk_drewN ?_ _ | refine blk_drew ?_ | refine blk_alloc ?_ _)); refine blk_put (cs := #[.string a1, .string a2, u275002, u275003]) ?_ 2 _ rfl; (with_reducible repeat (first | refine blk_drewN ?_ _ | refine blk_drew ?_ | refine blk_alloc ?_ _)); exact BK274.out⟩
      have n7_ : Aside0 (Below w.heap.size w (w30.setCell ⟨gb274, 2, none⟩ (.slice Ao31 y281.length co31))) := ⟨b0⟩
      (try clear HO_12)
      (try clear HO_15)
      (try clear HO_275003)
      (try clear HO283)
      (try clear BK268)
      (try clear BK269)
      (try clear BK274)
      (try clear HB)
      generalize (w30.setCell ⟨gb274, 2, none⟩ (.slice Ao31 y281.length co31)) = w33 at n0_ n1_ n2_ n3_ n4_ n5_ n6_ n7_ ⊢
      have HO_12 := n0_
      have HO_15 := n1_
      have HO_275003 := n2_
      have HO283 := n3_
      have BK268 := n4_
      have BK269 := n5_
      have BK274 := n6_
      have HB := n7_
      clear n0_ n1_ n2_ n3_ n4_ n5_ n6_ n7_
      have n0_ := Aside0.mk (Kd.R_drew HO_12.out)
      have n1_ := Aside0.mk (Kd.R_drew HO_15.out)
      have n2_ := Aside0.mk (Kd.R_drew HO_275003.out)
      have n3_ := Aside0.mk (Kd.R_drew HO283.out)
      have n4_ := Aside0.mk (blk_drew BK268.out)
      have n5_ := Aside0.mk (blk_drew BK269.out)
      have n6_ := Aside0.mk (blk_drew BK274.out)
      have n7_ := Aside0.mk (below_drew1 HB.out)
      clear HO_12 HO_15 HO_275003 HO283 BK268 BK269 BK274 HB
      have HO_12 := n0_
      have HO_15 := n1_
      have HO_275003 := n2_
      have HO283 := n3_
      have BK268 := n4_
      have BK269 := n5_
      have BK274 := n6_
      have HB := n7_
      clear n0_ n1_ n2_ n3_ n4_ n5_ n6_ n7_
      have p284 : 0 ≤ (x16_1 : Int) := of_decide_eq_true b5
      have q284 : x16_1 < (t275.length : Int) := of_decide_eq_true b5
      obtain ⟨ad284, e284, hx284_0, hx284_1, hx284_2, hx284_3, hx284_4⟩ := at_T42 (Kd.R_reads' HO_15.out).2.2 x16_1 p284 q284
      obtain rfl : ad278 = ad284 := (by injection e284)
      replace p284 := eq_true p284
      replace q284 := eq_true q284
      refine start_ (n := 11) (S := fun w' => w'.cell? ⟨gb274, 0, none⟩ = some (.string a1) ∧ w'.cell? ⟨gb274, 1, none⟩ = some (.string a2) ∧ w'.cell? ⟨gb274, 2, none⟩ = some (.slice Ao31 y281.length co31) ∧ w'.cell? ⟨gb274, 3, none⟩ = some (u275003) ∧ w'.cell? (ad278.add ((x16_1).toNat * 5)) = some (.string ((rd_T42 t275 x16_1).f0)) ∧ w'.cell? ⟨(ad278.add ((x16_1).toNat * 5)).block, (ad278.add ((x16_1).toNat * 5)).off + 1, none⟩ = some (.int .i64 ((rd_T42 t275 x16_1).f1)) ∧ w'.cell? ⟨(ad278.add ((x16_1).toNat * 5)).block, (ad278.add ((x16_1).toNat * 5)).off + 2, none⟩ = some (.int .i64 ((rd_T42 t275 x16_1).f2.f0)) ∧ w'.cell? ⟨(ad278.add ((x16_1).toNat * 5)).block, (ad278.add ((x16_1).toNat * 5)).off + 3, none⟩ = some (.int .i64 ((rd_T42 t275 x16_1).f2.f1)) ∧ w'.cell? ⟨(ad278.add ((x16_1).toNat * 5)).block, (ad278.add ((x16_1).toNat * 5)).off + 4, none⟩ = some (.int .i64 ((rd_T42 t275 x16_1).f3))) (ds := [8, 10]) (fB 11 0) (by kernel_rfl) rfl rfl ⟨(blk_cell BK274.out 0).trans rfl, (blk_cell BK274.out 1).trans rfl, (blk_cell BK274.out 2).trans rfl, (blk_cell BK274.out 3).trans rfl, hx284_0, hx284_1, hx284_2, hx284_3, hx284_4⟩ (fun hHeld => ?_); refine with_tabW mosaicref31_Table_Link.tab11 mosaicref31_Table_Link.bits11 (fun HT_ HW_ => ?_)
      generalize w33.drew = w34 at HO_12 HO_15 HO_275003 HO283 BK268 BK269 BK274 HB hx284_0 hx284_1 hx284_2 hx284_3 hx284_4 hHeld ⊢
      refine pS 0 58 11 1 HT_ ?_
      refine pS 2 60 11 5 HT_ ?_
      refine pS 3 61 11 13 HT_ ?_
      refine pS 4 62 11 29 HT_ ?_
      refine pS 5 63 11 61 HT_ ?_
      refine tS 1 59 11 63 HT_ HW_ hHeld ?_
      refine tS 6 64 11 127 HT_ HW_ hHeld ?_
      refine one_ (i := 7) (N := some 65) (fB 11 255) rfl rfl (one_of HT_.out (by kernel_rfl)) (by decide) (fun K hK => ?_)
      refine value_ (w1 := ?_) (v := ?_) (by rfl) rfl ?_ ?_
      rotate_left 2
      ·
       go_simp
       constructor
       ·
        rfl
       ·
        rfl
      refine hK.out _ _ ⟨(blk_cell (blk_alloc BK274.out _) 0).trans rfl, (blk_cell (blk_alloc BK274.out _) 1).trans rfl, (blk_cell (blk_alloc BK274.out _) 2).trans rfl, (blk_cell (blk_alloc BK274.out _) 3).trans rfl, (World.cell?_alloc_lt _ _ _ (World.block_lt_of_cell? _ _ (hHeld.2.2.2.2.1))).trans (hHeld.2.2.2.2.1), (World.cell?_alloc_lt _ _ _ (World.block_lt_of_cell? _ _ (hHeld.2.2.2.2.2.1))).trans (hHeld.2.2.2.2.2.1), (World.cell?_alloc_lt _ _ _ (World.block_lt_of_cell? _ _ (hHeld.2.2.2.2.2.2.1))).trans (hHeld.2.2.2.2.2.2.1), (World.cell?_alloc_lt _ _ _ (World.block_lt_of_cell? _ _ (hHeld.2.2.2.2.2.2.2.1))).trans (hHeld.2.2.2.2.2.2.2.1), (World.cell?_alloc_lt _ _ _ (World.block_lt_of_cell? _ _ (hHeld.2.2.2.2.2.2.2.2))).trans (hHeld.2.2.2.2.2.2.2.2)⟩ (fun hHeld => ?_)
      clear hK K
      refine norm_ (a' := ?_) ?_ ?_
      rotate_left; · show Act.put _ (some 65) _ = _; simp only [Act.put, sA, sB, sC, i64_w, i32_w, sD]; rfl
      refine last_ (i := 8) (N := some 66) (fB 11 511) rfl rfl (one_of HT_.out (by kernel_rfl)) (by decide) (fun K hK => ?_)
      refine Kd.R_append_step k40 (w0 := w) w.heap.size (by rfl) (.tmp 59) (.tmp 65) 90 40 (.agg #[(.int .i64 0), (.int .i64 0)]) 16 rfl Tryz.underlying90 info40 rfl (by decide) (by omega) u275003 x275003_1 (⟨(rd_T42 t275 x16_1).f2.f0, (rd_T42 t275 x16_1).f2.f1⟩ : S40) [.int .i64 ((rd_T42 t275 x16_1).f2.f0), .int .i64 ((rd_T42 t275 x16_1).f2.f1)] (fun k_ => k_ ≠ gb269) (fun _ => False) rfl rfl ?aP (fun _ hk => hk.elim) ?aF ?aO ?aB ?aS ?aL ?_
      (case aP => exact k40_mkM _ _ _ (⟨(rd_T42 t275 x16_1).f2.f0, (rd_T42 t275 x16_1).f2.f1⟩ : S40))
      (case aB => exact b0)
      (case aF => exact (fun k_ hk => Kd.freshB (g := gb269) (o := .cells #[.int .i64 a3_0, .int .i64 a3_1] 40 (0, 0)) (by exact bS BK269) k_ hk))
      (case aO => exact b3)
      (case aS => exact (below_size b0))
      (case aL => have := LMc26.out; omega)
      intro v286 w35 ho hb hg hat
      rw [← Ny285.out] at ho
      have n0_ := Aside0.mk (Kd.R_over' b8 (Kd.R_typed b3) (by decide) hg)
      have n1_ := Aside0.mk (Kd.R_over' b9 (Kd.R_typed b3) (by decide) hg)
      have n2_ := Aside0.mk (blk_grown (g := gb268) (o := .cells #[.int .i64 a0_0, .slice A0_1 l0_1.length c0_1] 33 (0, 0)) (by exact bS BK268) hg (Kd.R_ne HO_275003.out BK268.out (by decide)))
      have n3_ := Aside0.mk (blk_grown (g := gb269) (o := .cells #[.int .i64 a3_0, .int .i64 a3_1] 40 (0, 0)) (by exact bS BK269) hg (Kd.R_away HO_275003.out (fun _ hk => hk)))
      have n4_ := Aside0.mk (blk_grown (g := gb274) (o := .cells #[.string a1, .string a2, .slice Ao31 y281.length co31, u275003] 95 (0, 0)) (by exact bS BK274) hg (Kd.R_ne HO_275003.out BK274.out (by decide)))
      have n5_ := Aside0.mk (Kd.R_over' (by (with_reducible repeat (first | apply Kd.R_alloc | apply Kd.R_drewN | apply Kd.R_drew)); exact HO283.out) (Kd.R_typed b3) (by decide) hg)
      have n6_ := Aside0.mk (hb)
      have n7_ := Aside0.mk (ho)
      clear HO_12 HO_15 BK268 BK269 BK274 HO283 HB HO_275003
      have HO_12 := n0_
      have HO_15 := n1_
      have BK268 := n2_
      have BK269 := n3_
      have BK274 := n4_
      have HO283 := n5_
      have HB := n6_
      have HO287 := n7_
      clear n0_ n1_ n2_ n3_ n4_ n5_ n6_ n7_ ho hb hg hat
      obtain ⟨Ao36, co36, eo36⟩ := Kd.R_slice HO287.out
      (first | subst eo36 | (injection eo36 with f1_ f2_ f3_; have f4_ := f1_.symm; have f5_ := f3_.symm; clear f1_ f2_ f3_; subst f4_; subst f5_))
      refine hK.out _ _ ?_
      clear hK K
      refine norm_ (a' := ?_) ?_ ?_
      rotate_left; · show Act.put _ (some 66) _ = _; simp only [Act.put, sA, sB, sC, i64_w, i32_w, sD]; rfl
      refine pS 9 67 11 1023 HT_ ?_
      refine last_ (i := 10) (N := none) (fB 11 2047) rfl rfl (one_of HT_.out (by kernel_rfl)) (by decide) (fun K hK => ?_)
      have hs37 : w35.cell? ⟨gb274, 3, none⟩ = some (u275003) := (blk_cell BK274.out 3).trans rfl
      have hfs37 := blk_frozen BK274.out 3
      have hns37_0 := NB268_274.out
      have hns37_1 := NB269_274.out
      have hms37_0 := NB274_268.out
      have hms37_1 := NB274_269.out
      refine skip_ (w1 := ?_) (by rfl) rfl ?_ ?_
      rotate_left
      ·
       go_simp
       rfl
      refine hK.out _ _ ?_
      clear hK K
      refine done_ (done_of HT_.out (by kernel_rfl)) ?_
      try go_wp2
      go_roundg k1
      case measure => have := HK1.out; omega
      case rel => exact ⟨(wrap64 (x16_1 + 1)), (y281), (y285), (.slice Ao31 y281.length co31), (.slice Ao36 y285.length co36), b10, H', ⟨by have := HK1.out; omega⟩, ⟨by (with_reducible repeat (first | apply Kd.R_alloc | apply Kd.R_drewN | apply Kd.R_drew)); exact Kd.R_mono (Kd.R_far (p := ⟨gb274, 3, none⟩) (Kd.R_types HO_12.out BK274.out (by decide)) (fun _ hk => hk.2) (.slice Ao36 y285.length co36)) (fun _ hk => hk.1)⟩, ⟨by (with_reducible repeat (first | apply Kd.R_alloc | apply Kd.R_drewN | apply Kd.R_drew)); exact Kd.R_mono (Kd.R_far (p := ⟨gb274, 3, none⟩) (Kd.R_types HO_15.out BK274.out (by decide)) (fun _ hk => hk.2) (.slice Ao36 y285.length co36)) (fun _ hk => trivial)⟩, ⟨by (with_reducible repeat (first | apply Kd.R_alloc | apply Kd.R_drewN | apply Kd.R_drew)); exact Kd.R_mono (Kd.R_far (p := ⟨gb274, 3, none⟩) (Kd.R_types HO283.out BK274.out (by decide)) (fun _ hk => hk.2) (.slice Ao36 y285.length co36)) (fun _ hk => hk.1)⟩, ⟨by (with_reducible repeat (first | apply Kd.R_alloc | apply Kd.R_drewN | apply Kd.R_drew)); exact Kd.R_mono (Kd.R_far (p := ⟨gb274, 3, none⟩) (Kd.R_types HO287.out BK274.out (by decide)) (fun _ hk => hk.2) (.slice Ao36 y285.length co36)) (fun _ hk => hk.1)⟩, ⟨by (with_reducible repeat (first | refine blk_drewN ?_ _ | refine blk_drew ?_ | refine blk_alloc ?_ _)); refine blk_far ?_ NB268_274.out _; (with_reducible repeat (first | refine blk_drewN ?_ _ | refine blk_drew ?_ | refine blk_alloc ?_ _)); exact BK268.out⟩, ⟨by (with_reducible repeat (first | refine blk_drewN ?_ _ | refine blk_drew ?_ | refine blk_alloc ?_ _)); refine blk_far ?_ NB269_274.out _; (with_reducible repeat (first | refine blk_drewN ?_ _ | refine blk_drew ?_ | refine blk_alloc ?_ _)); exact BK269.out⟩, ⟨by (with_reducible repeat (first | refine blk_drewN ?_ _ | refine blk_drew ?_ | refine blk_alloc ?_ _)); refine blk_put (cs := #[.string a1, .string a2, .slice Ao31 y281.length co31, u275003]) ?_ 3 _ rfl; (with_reducible repeat (first | refine blk_drewN ?_ _ | refine blk_drew ?_ | refine blk_alloc ?_ _)); exact BK274.out⟩, ⟨b0⟩⟩
     ·
      replace c24 := Bool.eq_false_iff.mpr c24
      subst c24
      rw [if_neg (show ¬ (false = true) by decide)] at H
      have H' := Aside0.mk H
      clear H
      obtain ⟨Ao38, co38, eo38⟩ := Kd.R_slice HO_15.out
      subst eo38
      have p278 : 0 ≤ (x16_1 : Int) := of_decide_eq_true b5
      have q278 : x16_1 < (t275.length : Int) := of_decide_eq_true b5
      obtain ⟨ad278, e278, hx278_0, hx278_1, hx278_2, hx278_3, hx278_4⟩ := at_T42 (Kd.R_reads' HO_15.out).2.2 x16_1 p278 q278
      cases e278
      replace p278 := eq_true p278
      replace q278 := eq_true q278
      obtain ⟨Ao39, co39, eo39⟩ := Kd.R_slice HO_12.out
      subst eo39
      go_wp2_with (first | ((with_reducible refine gate_callee (f := 42) rfl ?_); refine goesL_ (some 47) rfl rfl Tryz.func42 (by kernel_rfl) rfl #[.slice Ao39 t270.length co39, .int .i64 ((rd_T42 t275 x16_1).f1)] rfl b4 ?_; (with_reducible refine (mosaicref09_Has.calls k1 _ _ t270 ((rd_T42 t275 x16_1).f1) false _ ?side1 ?side2 A23.out).mono ?_); (case side1 => repeat (first | exact (Kd.R_reads' HO_12.out).2.2 | (with_reducible refine Kd.C_alloc ?_ _) | (with_reducible refine Kd.C_drewN ?_ _) | (with_reducible refine Kd.C_drew ?_))); (case side2 => exact (Kd.R_reads' HO_12.out).2.1); rintro e w' ⟨rfl, ⟨nd, rfl⟩⟩; refine ⟨_, rfl, ?_⟩))
      go_roundg k1
      case measure => have := HK1.out; omega
      case rel => exact ⟨(wrap64 (x16_1 + 1)), (x275002_1), (x275003_1), (u275002), (u275003), b10, H', ⟨by have := HK1.out; omega⟩, ⟨b8⟩, ⟨b9⟩, ⟨b7⟩, ⟨b3⟩, ⟨by (with_reducible repeat (first | refine blk_drewN ?_ _ | refine blk_drew ?_ | refine blk_alloc ?_ _)); exact BK268.out⟩, ⟨by (with_reducible repeat (first | refine blk_drewN ?_ _ | refine blk_drew ?_ | refine blk_alloc ?_ _)); exact BK269.out⟩, ⟨by (with_reducible repeat (first | refine blk_drewN ?_ _ | refine blk_drew ?_ | refine blk_alloc ?_ _)); exact BK274.out⟩, ⟨b0⟩⟩
    ·
     rw [if_neg c21] at H
     have c21b0 := decide_eq_false c21
     clear c21
     replace H := Option.bind_eq_some_iff.mp H
     obtain ⟨⟨t288, t289⟩, A400, H⟩ := H
     have A40 := Aside0.mk A400
     clear A400
     simp only [Option.some.injEq, Prod.mk.injEq] at H
     obtain ⟨rfl, rfl⟩ := H
     obtain ⟨Ao41, co41, eo41⟩ := Kd.R_slice HO_15.out
     subst eo41
     have hnb42 := NB274_268.out
     have hnc42 := NB268_274.out
     have hnb43 := NB274_269.out
     have hnc43 := NB269_274.out
     have ⟨_, _, _, _, _, _, _, _⟩ := cc4 BK274
     obtain ⟨Ao45, co45, eo45⟩ := Kd.R_slice HO_275002.out
     subst eo45
     obtain ⟨Ao46, co46, eo46⟩ := Kd.R_slice HO_275003.out
     subst eo46
     go_wp2_with (first | ((with_reducible refine gate_callee (f := 43) rfl ?_); refine goesL_ (some 69) rfl rfl Tryz.func43 (by kernel_rfl) rfl #[.agg #[.string a1, .string a2, .slice Ao45 x275002_1.length co45, .slice Ao46 x275003_1.length co46]] rfl b4 ?_; (with_reducible refine (mosaicref29_Text.calls k1 a1 a2 _ _ x275002_1 _ _ x275003_1 t288 t289 _ ?side1 ?side2 ?side3 ?side4 A40.out).mono ?_); (case side1 => repeat (first | exact (Kd.R_reads' HO_275002.out).2.2 | (with_reducible refine Kd.C_alloc ?_ _) | (with_reducible refine Kd.C_drewN ?_ _) | (with_reducible refine Kd.C_drew ?_))); (case side2 => exact (Kd.R_reads' HO_275002.out).2.1); (case side3 => repeat (first | exact (Kd.R_reads' HO_275003.out).2.2 | (with_reducible refine Kd.C_alloc ?_ _) | (with_reducible refine Kd.C_drewN ?_ _) | (with_reducible refine Kd.C_drew ?_))); (case side4 => exact (Kd.R_reads' HO_275003.out).2.1); rintro e w47 ⟨rfl, hb⟩; refine ⟨_, rfl, ?_⟩; replace HO_12 := Aside0.mk (Kd.R_below b8 hb); replace HO_15 := Aside0.mk (Kd.R_below b9 hb); replace HO_275002 := Aside0.mk (Kd.R_below b7 hb); replace HO_275003 := Aside0.mk (Kd.R_below b3 hb); replace BK268 := bB BK268 hb; replace BK269 := bB BK269 hb; replace BK274 := bB BK274 hb; replace HB := Aside0.mk (below_step b0 hb); (try clear hb); (try clear hb2); (try clear hk); (try clear hi)))
     go_ret2
     exact ⟨by first | rfl | (simp [errW_none, errW_some] <;> rfl) | (simp [*, errW_none, errW_some] <;> rfl), b0⟩
 ·
  rw [if_neg c7] at H
  have c7b0 := beq_eq_false_iff_ne.mpr c7
  have c7b1 := bne_iff_ne.mpr c7
  simp only [Option.some.injEq, Prod.mk.injEq] at H
  obtain ⟨rfl, rfl⟩ := H
  go_enter Tryz.func17, Tryz.ntmps17
  go_wp2_with (first | ((with_reducible refine gate_dst (N := 5) rfl ?_); refine box_event ?hg (N := 5) ?hd (cs := #[.int .i64 a0_0, .slice A0_1 l0_1.length c0_1]) (t := 33) ?hr ?_; (case hd => rfl); (case hg => rfl); (case hr => first | (go_simp; done) | (go_simp; rfl)); intro gb268 hg w48 hbox hb; have BK268 := Aside0.mk (hbox); have GW268 := Aside0.mk ((by rw [hg]; exact (below_size b6) : w.heap.size ≤ gb268)); have GE268 := Aside0.mk ((by rw [hg]; exact (below_size b6) : w.heap.size ≤ gb268)); replace HB := Aside0.mk (below_step b6 hb); clear hb hbox hg) | ((with_reducible refine gate_dst (N := 8) rfl ?_); refine box_event ?hg (N := 8) ?hd (cs := #[.int .i64 a3_0, .int .i64 a3_1]) (t := 40) ?hr ?_; (case hd => rfl); (case hg => rfl); (case hr => first | (go_simp; done) | (go_simp; rfl)); intro gb269 hg w49 hbox hb; have BK269 := Aside0.mk (hbox); have GW269 := Aside0.mk ((by rw [hg]; exact (below_size b2) : w.heap.size ≤ gb269)); have GE269 := Aside0.mk ((by rw [hg]; exact (below_size b2) : w.heap.size ≤ gb269)); replace HB := Aside0.mk (below_step b2 hb); have NB268_269 := bNl BK268 hg; have NB269_268 := bNg BK268 hg; replace BK268 := bB BK268 hb; clear hb hbox hg; have hnb50 := NB268_269.out; have hnc50 := NB269_268.out; have ⟨_, _, _, _⟩ := cc2 BK268; have ⟨_, _, _, _⟩ := cc2 BK269) | ((with_reducible refine gate_callee (f := 14) rfl ?_); refine goesL_ (some 22) rfl rfl Tryz.func14 (by kernel_rfl) rfl #[.agg #[.int .i64 a0_0, .slice A0_1 l0_1.length c0_1], .string a1, .agg #[.int .i64 a3_0, .int .i64 a3_1], .int .i64 6, .int .i64 a4] rfl b4 ?_; (with_reducible refine (mosaicref31_Table_Find.calls k a0_0 _ _ l0_1 a1 a3_0 a3_1 6 a4 t270 t273 _ ?side1 ?side2 A6.out).mono ?_); (case side1 => repeat (first | exact (Kd.C_below HR0_1.out HB.out) | (with_reducible refine Kd.C_alloc ?_ _) | (with_reducible refine Kd.C_drewN ?_ _) | (with_reducible refine Kd.C_drew ?_))); (case side2 => exact HC0_1.out); rintro e w53 ⟨v271, rfl, ho0, hb⟩; refine ⟨_, rfl, ?_⟩; have HO272 := Aside0.mk (Kd.R_lower ho0 (below_size b1)); replace BK268 := bB BK268 hb; replace BK269 := bB BK269 hb; replace HB := Aside0.mk (below_step b1 hb); (try clear hb); (try clear hb2); (try clear hk); (try clear hi); (try clear ho0)))
  go_ret2
  exact ⟨by first | rfl | (simp [errW_none, errW_some] <;> rfl) | (simp [*, errW_none, errW_some] <;> rfl), b1⟩

/-! ### mosaicref04_Same: function 18 -/
def mosaicref04_Same.l0 : Nat → List Int → List Int → Int → Option (Bool)
 | 0, _, _, _ => none
 | k + 1, x0, x1, x5 => if x5 < (x0.length : Int) then (if 0 ≤ x5 then (if x5 < (x1.length : Int) then (if (rd x0 x5) = (rd x1 x5) then (mosaicref04_Same.l0 k x0 x1 (wrap64 (x5 + 1))) else (some false)) else (none)) else (none)) else (some true)
def mosaicref04_Same.f (k : Nat) (l0 : List Int) (l1 : List Int) : Option (Bool) := if (l0.length : Int) = (l1.length : Int) then (mosaicref04_Same.l0 k l0 l1 0) else (some false)
set_option maxHeartbeats 8000000 in
set_option maxRecDepth 100000 in
theorem mosaicref04_Same.calls (k : Nat) (A0 : Option Addr) (c0 : Nat) (l0 : List Int) (A1 : Option Addr) (c1 : Nat) (l1 : List Int) (r : Bool) (w : World) (hr0 : Kd.C (Kd.int .i64) w A0 l0.length l0) (hc0 : l0.length ≤ c0) (hr1 : Kd.C (Kd.int .i64) w A1 l1.length l1) (hc1 : l1.length ≤ c1) (h : mosaicref04_Same.f k l0 l1 = some r) :
  Calls Tryz.prog 18 #[.slice A0 l0.length c0, .slice A1 l1.length c1] w fun e w' => e = .returned (.bool r) ∧ Drawn0 w w' := by
 have HR0 := Aside0.mk hr0
 have HC0 := Aside0.mk hc0
 clear hr0 hc0
 have HR1 := Aside0.mk hr1
 have HC1 := Aside0.mk hc1
 clear hr1 hc1
 have H : (if (l0.length : Int) = (l1.length : Int) then (mosaicref04_Same.l0 k l0 l1 0) else (some false)) = some r := h
 clear h
 by_cases c3 : (l0.length : Int) = (l1.length : Int)
 ·
  rw [if_pos c3] at H
  have c3b0 := beq_iff_eq.mpr c3
  have c3b1 := bne_eq_false_iff_eq.mpr c3
  have c3b2 : (l0.length == l1.length) = true := by first | simpa using c3 | (simp at c3 ⊢; omega)
  clear c3
  have H' := Aside0.mk H
  clear H
  go_enter Tryz.func18, Tryz.ntmps18
  go_wp2
  repeat (go_quiet (fail); try go_wp2)
  go_loopg [5] k (fun kq v5 w' => ∃ (x5_1 : Int), v5 = .int .i64 x5_1 ∧ Aside0 (mosaicref04_Same.l0 kq l0 l1 x5_1 = some r) ∧ Aside0 (kq ≤ k) ∧ Drawn0 w w')
  case atStart => exact ⟨(0), b10, H', ⟨Nat.le_refl _⟩, b11⟩
  case round =>
   clear H'
   try clear c1
   try clear c3
   try clear c3b0
   try clear c3b1
   try clear c3b2
   obtain ⟨x5_1, rfl, HA, HK1, ⟨m1, rfl⟩⟩ := hrel
   cases gk with
   | zero => exact absurd HA.out (by simp [mosaicref04_Same.l0])
   | succ k1 =>
    have H := HA.out
    clear HA
    simp only [mosaicref04_Same.l0] at H
    by_cases c4 : x5_1 < (l0.length : Int)
    ·
     rw [if_pos c4] at H
     have c4b0 := decide_eq_true c4
     clear c4
     by_cases c5 : 0 ≤ x5_1
     rotate_left; · rw [if_neg c5] at H; exact absurd H (by simp)
     rw [if_pos c5] at H
     have c5b0 := decide_eq_true c5
     clear c5
     by_cases c6 : x5_1 < (l1.length : Int)
     rotate_left; · rw [if_neg c6] at H; exact absurd H (by simp)
     rw [if_pos c6] at H
     have c6b0 := decide_eq_true c6
     clear c6
     by_cases c7 : (rd l0 x5_1) = (rd l1 x5_1)
     ·
      rw [if_pos c7] at H
      have c7b0 := beq_iff_eq.mpr c7
      have c7b1 := bne_eq_false_iff_eq.mpr c7
      clear c7
      have H' := Aside0.mk H
      clear H
      have p290 : 0 ≤ (x5_1 : Int) := of_decide_eq_true b5
      have q290 : x5_1 < (l0.length : Int) := of_decide_eq_true b5
      obtain ⟨ad290, e290, hx290_0⟩ := Kd.at_int HR0.out x5_1 p290 q290
      cases e290
      replace p290 := eq_true p290
      replace q290 := eq_true q290
      have p291 : 0 ≤ (x5_1 : Int) := of_decide_eq_true b5
      have q291 : x5_1 < (l1.length : Int) := of_decide_eq_true b5
      obtain ⟨ad291, e291, hx291_0⟩ := Kd.at_int HR1.out x5_1 p291 q291
      cases e291
      replace p291 := eq_true p291
      replace q291 := eq_true q291
      go_wp2
      repeat (go_quiet (fail); try go_wp2)
      go_roundg k1
      case measure => have := HK1.out; omega
      case rel => exact ⟨(wrap64 (x5_1 + 1)), b10, H', ⟨by have := HK1.out; omega⟩, b11⟩
     ·
      rw [if_neg c7] at H
      have c7b0 := beq_eq_false_iff_ne.mpr c7
      have c7b1 := bne_iff_ne.mpr c7
      obtain rfl := Option.some.inj H
      have p290 : 0 ≤ (x5_1 : Int) := of_decide_eq_true b5
      have q290 : x5_1 < (l0.length : Int) := of_decide_eq_true b5
      obtain ⟨ad290, e290, hx290_0⟩ := Kd.at_int HR0.out x5_1 p290 q290
      cases e290
      replace p290 := eq_true p290
      replace q290 := eq_true q290
      have p291 : 0 ≤ (x5_1 : Int) := of_decide_eq_true b5
      have q291 : x5_1 < (l1.length : Int) := of_decide_eq_true b5
      obtain ⟨ad291, e291, hx291_0⟩ := Kd.at_int HR1.out x5_1 p291 q291
      cases e291
      replace p291 := eq_true p291
      replace q291 := eq_true q291
      go_wp2
      repeat (go_quiet (fail); try go_wp2)
      go_ret
      exact ⟨b10, b11⟩
    ·
     rw [if_neg c4] at H
     have c4b0 := decide_eq_false c4
     clear c4
     obtain rfl := Option.some.inj H
     go_wp2
     repeat (go_quiet (fail); try go_wp2)
     go_ret
     exact ⟨b10, b11⟩
 ·
  rw [if_neg c3] at H
  have c3b0 := beq_eq_false_iff_ne.mpr c3
  have c3b1 := bne_iff_ne.mpr c3
  have c3b2 : (l0.length == l1.length) = false := by first | simpa using c3 | (simp at c3 ⊢; omega)
  obtain rfl := Option.some.inj H
  go_enter Tryz.func18, Tryz.ntmps18
  go_wp2
  repeat (go_quiet (fail); try go_wp2)
  go_ret
  exact ⟨b10, b11⟩

end Go.Proofs.YtmimnlbkllgfpaaGreatDoor.A
