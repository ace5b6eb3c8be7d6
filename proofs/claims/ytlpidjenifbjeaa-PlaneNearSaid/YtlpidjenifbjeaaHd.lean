/- plane.Near: walked, at any places. -/
import Derived.Test.YtlpidjenifbjeaaNe
namespace Go.Proofs.Ytlpidjenifbjeaa.Hand
open Go.RowKit Go.Proofs.Ytlpidjenifbjeaa.P Go.Proofs.YtlpidjenifbjeaaW.PrintWords Go.Proofs.Ytlpidjenifbjeaa.Pl Go.Proofs.Ytlpidjenifbjeaa.Sw Go.Proofs.PlaceSort

set_option maxRecDepth 100000 in
theorem insertion_nil (f : Value) (w : World) :
    Calls Try.prog 52 #[.slice none 0 0, .int .i64 0, .int .i64 0, f] w fun e w' => e = .returned (.tuple #[]) ∧ w' = w := by
  go_enter Try.func52, Try.ntmps52
  go_wp2
  refine wp_loop_rounds 1 ?_
  rw [rounds_succ]
  go_wp2
  go_end0
  exact ⟨rfl, rfl⟩
set_option maxRecDepth 100000 in
theorem stable_nil (f : Value) (w : World) :
    Calls Try.prog 50 #[.slice none 0 0, .int .i64 0, f] w fun e w' => e = .returned (.tuple #[]) ∧ w' = w := by
  go_enter Try.func50, Try.ntmps50
  go_wp2
  refine wp_loop_rounds 1 ?_
  rw [rounds_succ]
  go_wp2_with (go_at_call 52; refine (insertion_nil f _).mono ?_; rintro e w1 ⟨rfl, rfl⟩)
  refine wp_loop_rounds 1 ?_
  rw [rounds_succ]
  go_wp2
  go_end0
  exact ⟨rfl, rfl⟩
set_option maxRecDepth 100000 in
theorem sort_nil (f : Value) (w : World) :
    Calls Try.prog 46 #[.slice none 0 0, f] w fun e w' => e = .returned (.tuple #[]) ∧ w' = w := by
  go_enter Try.func46, Try.ntmps46
  go_wp2_with (go_at_call 50; refine (stable_nil f _).mono ?_; rintro e w1 ⟨rfl, rfl⟩)
  go_end0
  exact ⟨rfl, rfl⟩
theorem encs_cells {g : Nat} {cur : Array Value} {e : Nat} {W : World} {L : List Int} (hg : W.heap[g]? = some (.cells cur e (0, 0))) (hL : L.length ≤ cur.size) (hc : ∀ (j : Nat) x, L[j]? = some x → W.cell? ⟨g, j, none⟩ = some (.int .i64 x)) : cur.toList.take L.length = encs (fun x => .int .i64 x) L := by
  apply List.ext_getElem?
  intro j
  unfold encs
  rw [List.getElem?_map]
  rcases Nat.lt_or_ge j L.length with h | h
  · rw [List.getElem?_take_of_lt h, List.getElem?_eq_getElem h]
    have := hc j _ (List.getElem?_eq_getElem h)
    unfold World.cell? at this
    rw [hg] at this
    simpa using this
  · rw [List.getElem?_eq_none (by rw [List.length_take]; omega), List.getElem?_eq_none h]; rfl
set_option maxHeartbeats 4000000 in
set_option maxRecDepth 100000 in
/-- At places that may be, one hundred and sixty of them at most. -/
theorem near_ok (A : Option Addr) (c : Nat) (a : Int × Int) (l : List S23) (w : World) (h : Kd.C k23 w A l.length l) (hlen : l.length ≤ 160) (ha : okB a.1 a.2 = true) (hok : bad l = false) :
    Calls Try.prog 32 #[.agg #[.int .i64 a.1, .int .i64 a.2], .slice A l.length c] w fun e w' => ∃ v0_ : Value, e = .returned (.tuple #[v0_, .int .i64 0]) ∧ Kd.R (Kd.int .i64) 3 w' w.heap.size (fun _ => True) v0_ (srt (dst a l) (from_ 0 l.length)) ∧ Below w.heap.size w w' := by
  have hCk := fun w => plane_Check.calls a.1 a.2 true w (by rw [check_eq]; exact congrArg some ha)
  have hCF := fun w' (hb' : Below w.heap.size w w') => containsFunc A c l w' (Kd.C_below h hb') (by omega)
  rw [hok] at hCF
  obtain ⟨p0, p1⟩ := a
  simp only at hCk
  have hB1 : Below w.heap.size w (w.alloc (.cells #[.int .i64 p0, .int .i64 p1] 23)) := (Below.refl _ w).alloc (Nat.le_refl _) _
  have hB2 : Below w.heap.size w ((w.alloc (.cells #[.int .i64 p0, .int .i64 p1] 23)).alloc (.cells #[.slice A l.length c] 52)) := hB1.alloc hB1.size _
  have hn1 : (w.alloc (.cells #[.int .i64 p0, .int .i64 p1] 23)).heap[w.heap.size]? = some (.cells #[.int .i64 p0, .int .i64 p1] 23 (0, 0)) := blk_new w _
  have hn2 := blk_alloc hn1 (.cells #[.slice A l.length c] 52)
  have hm2 := blk_new (w.alloc (.cells #[.int .i64 p0, .int .i64 p1] 23)) (.cells #[.slice A l.length c] 52)
  rw [show (w.alloc (.cells #[.int .i64 p0, .int .i64 p1] 23)).heap.size = w.heap.size + 1 by simp] at hm2
  have HC := Sw.Aside.mk h
  clear h
  go_enter Try.func32, Try.ntmps32
  have hlen160 : ¬ (l.length : Int) > 160 := by omega
  go_wp2_with (first
    | (go_at_call 17; refine (hCk _).mono ?_; rintro e w3 ⟨rfl, hb3⟩; have hn3 := blk_below hn2 hb3; have hm3 := blk_below hm2 hb3; have hB3 := hB2.trans (hb3.mono hB2.size); have hc3 := blk_cell hm3 0; have hsz3 := hb3.size)
    | (go_at_call 44; refine (hCF _ hB3).mono ?_; rintro e w4 ⟨rfl, hb4⟩; have hn4 := blk_below hn3 hb4; have hm4 := blk_below hm3 hb4; have hB4 := hB3.trans (hb4.mono hB3.size); have hc4 := blk_cell hm4 0; have hsz4 := hb4.size))
  have info3 : (Try.prog.info? 3).map (fun i => (i.zero, i.size, i.bytes)) = some (some (.int .i64 0), 1, 8) := by kernel_rfl
  have hP4 := Kd.C_below HC.out hB4
  have hs2 : w.heap.size + 2 ≤ w4.heap.size := by
    have : ((w.alloc (.cells #[.int .i64 p0, .int .i64 p1] 23)).alloc (.cells #[.slice A l.length c] 52)).heap.size = w.heap.size + 2 := by simp
    omega
  clear hb3 hb4 hn1 hn2 hm2 hn3 hm3 hc3 hsz3 hsz4 hB1 hB2 hB3 hCk hCF
  have HP4 := Sw.Aside.mk hP4
  clear hP4
  go_loopw [6, 22] (fun ov iv wr => ∃ k : Nat, k ≤ l.length ∧ iv = .int .i64 k ∧ Kd.R (Kd.int .i64) 3 wr w4.heap.size (fun _ => True) ov (from_ 0 k) ∧ Below w4.heap.size w4 wr) (fun _ iv _ => l.length - (Sw.intOf iv).toNat)
  case atStart => exact ⟨0, by omega, rfl, Kd.R_nil _ _ _ _ _, Below.refl _ _⟩
  case round =>
    obtain ⟨k, hk, rfl, hR, hB⟩ := hrel
    by_cases hlt : k < l.length
    · have hfl := from_len k 0
      go_wp2_with (first | ((with_reducible refine gate_builtin (b := .append) (xs := #[.tmp 25, .tmp 27]) rfl ?_); at_builtin; refine Kd.R_append (Kd.int .i64) (w0 := w4) w4.heap.size rfl (.tmp 25) (.tmp 27) 54 3 (.int .i64 0) 8 rfl Try.underlying54 info3 rfl (by decide) (by omega) _ (from_ 0 k) (k : Int) [.int .i64 (k : Int)] (fun _ => True) (fun _ => False) rfl rfl ?aP (fun _ hk => hk.elim) ?aF ?aO ?aB ?aS ?aL ?_; (case aP => exact rfl); (case aB => exact hB); (case aF => exact (fun _ _ => trivial)); (case aO => exact hR); (case aS => exact hB.size); (case aL => rw [hfl]; omega); intro v1 w6 hR1 hB6 _ _))
      refine ⟨⟨k + 1, by omega, by rw [Int.natCast_add]; rfl, by rw [from_snoc]; exact hR1, hB6⟩, ?_⟩
      show l.length - ((k : Int) + 1).toNat < l.length - (k : Int).toNat
      omega
    · have hke : k = l.length := by omega
      subst hke
      have hown := Kd.own_of_R hR
      rcases hown.2 with ⟨hv, h0⟩ | ⟨g, cap, cur, hv, hg, hcur, hncap, hcml, hsz, htake⟩
      · rw [from_len] at h0
        obtain rfl := List.length_eq_zero_iff.mp h0
        subst hv
        have hS := fun f w => sort_nil f w
        go_wp2_with (go_at_call 46; refine (hS _ _).mono ?_; rintro e w7 ⟨rfl, rfl⟩)
        go_ret2
        exact ⟨_, rfl, Kd.R_nil _ _ _ _ _, hB4.trans (hB.mono hB4.size)⟩
      rw [from_len] at hv hncap htake
      subst hv
      have hc5 := (hB.cell (p := ⟨w.heap.size + 1, 0, none⟩) (by show w.heap.size + 1 < w4.heap.size; omega)).trans hc4
      have hgl : g < wr.heap.size := by
        rcases Nat.lt_or_ge g wr.heap.size with h | h
        · exact h
        · rw [Array.getElem?_eq_none h] at hcur; cases hcur
      have hn5 := blk_below hn4 hB
      have hP5 := Kd.C_below HP4.out hB
      have hArr : Arr wr g (from_ 0 l.length) wr := by
        refine ⟨fun j x hj => ?_, fun j _ => blk_frozen hcur j, hgl, Nat.le_refl _, fun _ _ _ => rfl, rfl, rfl, rfl, fun c e z h => ⟨c, rfl, h⟩⟩
        have hjl : j < l.length := by
          rcases Nat.lt_or_ge j l.length with h | h
          · exact h
          · rw [List.getElem?_eq_none (by rw [from_len]; exact h)] at hj; cases hj
        rw [blk_cell hcur j]
        have h1 : (cur.toList.take (l.length * 1))[j]? = some (.int .i64 x) := by
          rw [htake]; unfold encs; rw [List.getElem?_map, hj]; rfl
        rw [List.getElem?_take_of_lt (by omega)] at h1
        simpa using h1
      have hCmp : CmpIs wr g 47 #[.pointer (some ⟨w.heap.size, 0, none⟩), .pointer (some ⟨w.heap.size + 1, 0, none⟩)] (dst (p0, p1) l) l.length := by
        intro W hsz hk x y hx hy
        obtain ⟨X, rfl⟩ := Int.eq_ofNat_of_zero_le hx.1
        obtain ⟨Y, rfl⟩ := Int.eq_ofNat_of_zero_le hy.1
        have hkc : ∀ (p : Addr) v, p.block < w4.heap.size → wr.cell? p = some v → W.cell? p = some v := fun p v hlt hc => by
          have := hk p.block (Nat.lt_of_lt_of_le hlt hB.size) (by omega)
          rw [← hc]; unfold World.cell?; rw [this]
        have hP6 : Kd.C k23 W A l.length l := ⟨HP4.out.1, HP4.out.2.1, fun hn => by
          obtain ⟨ad, e, hc⟩ := HP4.out.2.2 hn
          refine ⟨ad, e, fun j p hj => ?_⟩
          obtain ⟨c, hs, hr, hcell⟩ := hc j p hj
          exact ⟨c, hs, by rw [k23_open hr]; exact k23_mk W p, fun i u hu => hkc _ _ (World.block_lt_of_cell? w4 _ (hcell i u hu)) (pw_cell_below hB (hcell i u hu))⟩⟩
        exact lit2 A c w.heap.size (w.heap.size + 1) (p0, p1) l X Y W hP6 (hkc _ _ (by show w.heap.size < w4.heap.size; omega) (blk_cell hn5 0)) (hkc _ _ (by show w.heap.size < w4.heap.size; omega) (blk_cell hn5 1)) (hkc _ _ (by show w.heap.size + 1 < w4.heap.size; omega) hc5) (by omega) (by omega)
      have hS := sort wr g cap l.length 47 #[.pointer (some ⟨w.heap.size, 0, none⟩), .pointer (some ⟨w.heap.size + 1, 0, none⟩)] (dst (p0, p1) l) (from_ 0 l.length) (by rw [from_len]) (by omega) (from_in _) wr (enters_of Try.func47 (by kernel_rfl) rfl) hCmp hArr
      obtain ⟨S, hSe⟩ : ∃ S, S = srt (dst (p0, p1) l) (from_ 0 l.length) := ⟨_, rfl⟩
      rw [← hSe] at hS
      have hSl : S.length = l.length := by rw [hSe, srt_len, from_len]
      have HS := Sw.Aside.mk (And.intro hSe hSl)
      have HO := Sw.Aside.mk (And.intro hcur (And.intro hg (And.intro hncap (And.intro hcml hsz))))
      clear hCmp hArr hown hcur htake hP5 hn5 hn4 hm4 hc4 hc5 hR hSe hSl
      go_wp2_with (go_at_call 46; refine hS.mono ?_; rintro e w7 ⟨rfl, hA7⟩)
      go_ret2
      obtain ⟨cur', hs', hc7⟩ := hA7.shape _ _ _ HO.out.1
      refine ⟨_, rfl, ?_, ⟨hA7.os.trans (hB.os.trans hB4.os), hA7.tape.trans (hB.tape.trans hB4.tape), hA7.output.trans (hB.output.trans hB4.output), Nat.le_trans hB4.size (Nat.le_trans hB.size hA7.size), fun k hk => ?_⟩⟩
      · rw [← HS.out.1]
        refine Kd.R_of_own ⟨by simp [encs], Or.inr ⟨g, cap, cur', by rw [HS.out.2]; rfl, Nat.le_trans hB4.size HO.out.2.1, hc7, by rw [HS.out.2]; exact HO.out.2.2.1, HO.out.2.2.2.1, by rw [hs']; exact HO.out.2.2.2.2, ?_⟩⟩ (fun _ _ => trivial)
        rw [Nat.mul_one]
        exact encs_cells hc7 (by rw [hs', HS.out.2, HO.out.2.2.2.2]; have := HO.out.2.2.1; omega) hA7.cell
      · have hk4 : k < w4.heap.size := Nat.lt_of_lt_of_le hk hB4.size
        exact (hA7.keep k (Nat.lt_of_lt_of_le hk4 hB.size) (by have := HO.out.2.1; omega)).trans ((hB.block k hk4).trans (hB4.block k hk))
set_option maxHeartbeats 4000000 in
set_option maxRecDepth 100000 in
/-- From where no place may be. -/
theorem near_at (A : Option Addr) (c : Nat) (a : Int × Int) (l : List S23) (w : World) (ha : okB a.1 a.2 = false) :
    Calls Try.prog 32 #[.agg #[.int .i64 a.1, .int .i64 a.2], .slice A l.length c] w fun e w' => ∃ v0_ : Value, e = .returned (.tuple #[v0_, .int .i64 1]) ∧ Kd.R (Kd.int .i64) 3 w' w.heap.size (fun _ => True) v0_ [] ∧ Below w.heap.size w w' := by
  have hCk := fun w => plane_Check.calls a.1 a.2 false w (by rw [check_eq]; exact congrArg some ha)
  obtain ⟨p0, p1⟩ := a
  simp only at hCk
  have hB1 : Below w.heap.size w (w.alloc (.cells #[.int .i64 p0, .int .i64 p1] 23)) := (Below.refl _ w).alloc (Nat.le_refl _) _
  have hB2 : Below w.heap.size w ((w.alloc (.cells #[.int .i64 p0, .int .i64 p1] 23)).alloc (.cells #[.slice A l.length c] 52)) := hB1.alloc hB1.size _
  have hn1 : (w.alloc (.cells #[.int .i64 p0, .int .i64 p1] 23)).heap[w.heap.size]? = some (.cells #[.int .i64 p0, .int .i64 p1] 23 (0, 0)) := blk_new w _
  have hn2 := blk_alloc hn1 (.cells #[.slice A l.length c] 52)
  go_enter Try.func32, Try.ntmps32
  go_wp2_with (first
    | (go_at_call 17; refine (hCk _).mono ?_; rintro e w3 ⟨rfl, hb3⟩; have hB3 := hB2.trans (hb3.mono hB2.size)))
  go_ret2
  exact ⟨_, rfl, Kd.R_nil _ _ _ _ _, hB3⟩
set_option maxHeartbeats 4000000 in
set_option maxRecDepth 100000 in
/-- One of the places may not be; or there are too many. -/
theorem near_bad (A : Option Addr) (c : Nat) (a : Int × Int) (l : List S23) (r : Int) (w : World) (h : Kd.C k23 w A l.length l) (hlen : l.length ≤ 100000) (ha : okB a.1 a.2 = true) (hr : (bad l = true ∧ r = 1) ∨ (bad l = false ∧ 160 < l.length ∧ r = 2)) :
    Calls Try.prog 32 #[.agg #[.int .i64 a.1, .int .i64 a.2], .slice A l.length c] w fun e w' => ∃ v0_ : Value, e = .returned (.tuple #[v0_, .int .i64 r]) ∧ Kd.R (Kd.int .i64) 3 w' w.heap.size (fun _ => True) v0_ [] ∧ Below w.heap.size w w' := by
  have hCk := fun w => plane_Check.calls a.1 a.2 true w (by rw [check_eq]; exact congrArg some ha)
  have hCF := fun w' (hb' : Below w.heap.size w w') => containsFunc A c l w' (Kd.C_below h hb') (by omega)
  obtain ⟨p0, p1⟩ := a
  simp only at hCk
  have hB1 : Below w.heap.size w (w.alloc (.cells #[.int .i64 p0, .int .i64 p1] 23)) := (Below.refl _ w).alloc (Nat.le_refl _) _
  have hB2 : Below w.heap.size w ((w.alloc (.cells #[.int .i64 p0, .int .i64 p1] 23)).alloc (.cells #[.slice A l.length c] 52)) := hB1.alloc hB1.size _
  have hn1 : (w.alloc (.cells #[.int .i64 p0, .int .i64 p1] 23)).heap[w.heap.size]? = some (.cells #[.int .i64 p0, .int .i64 p1] 23 (0, 0)) := blk_new w _
  have hn2 := blk_alloc hn1 (.cells #[.slice A l.length c] 52)
  have hm2 := blk_new (w.alloc (.cells #[.int .i64 p0, .int .i64 p1] 23)) (.cells #[.slice A l.length c] 52)
  rw [show (w.alloc (.cells #[.int .i64 p0, .int .i64 p1] 23)).heap.size = w.heap.size + 1 by simp] at hm2
  clear h
  rcases hr with ⟨hbad, rfl⟩ | ⟨hbad, h160, rfl⟩
  · rw [hbad] at hCF
    go_enter Try.func32, Try.ntmps32
    go_wp2_with (first
      | (go_at_call 17; refine (hCk _).mono ?_; rintro e w3 ⟨rfl, hb3⟩; have hm3 := blk_below hm2 hb3; have hB3 := hB2.trans (hb3.mono hB2.size); have hc3 := blk_cell hm3 0; have hsz3 := hb3.size)
      | (go_at_call 44; refine (hCF _ hB3).mono ?_; rintro e w4 ⟨rfl, hb4⟩; have hB4 := hB3.trans (hb4.mono hB3.size)))
    go_ret2
    exact ⟨_, rfl, Kd.R_nil _ _ _ _ _, hB4⟩
  · rw [hbad] at hCF
    have hlen160 : (l.length : Int) > 160 := by omega
    go_enter Try.func32, Try.ntmps32
    go_wp2_with (first
      | (go_at_call 17; refine (hCk _).mono ?_; rintro e w3 ⟨rfl, hb3⟩; have hm3 := blk_below hm2 hb3; have hB3 := hB2.trans (hb3.mono hB2.size); have hc3 := blk_cell hm3 0; have hsz3 := hb3.size)
      | (go_at_call 44; refine (hCF _ hB3).mono ?_; rintro e w4 ⟨rfl, hb4⟩; have hm4 := blk_below hm3 hb4; have hB4 := hB3.trans (hb4.mono hB3.size); have hc4 := blk_cell hm4 0; have hsz4 := hb4.size))
    go_ret2
    exact ⟨_, rfl, Kd.R_nil _ _ _ _ _, hB4⟩
/-- plane.Near in plain words (at most a thousand places). -/
def plane_Near.f (a0_0 a0_1 : Int) (l1 : List S23) : Option (List Int × Int) :=
  if l1.length ≤ 1000 then (if okB a0_0 a0_1 = true then (if bad l1 = true then some ([], 1) else if 160 < l1.length then some ([], 2) else some (srt (dst (a0_0, a0_1) l1) (from_ 0 l1.length), 0)) else some ([], 1)) else none
theorem plane_Near.calls (a0_0 a0_1 : Int) (A1 : Option Addr) (c1 : Nat) (l1 : List S23) (r1 : List Int) (r2 : Int) (w : World) (hr1 : Kd.C k23 w A1 l1.length l1) (hc1 : l1.length ≤ c1) (h : plane_Near.f a0_0 a0_1 l1 = some (r1, r2)) :
    Calls Try.prog 32 #[.agg #[.int .i64 a0_0, .int .i64 a0_1], .slice A1 l1.length c1] w fun e w' => ∃ v0_ : Value, e = .returned (.tuple #[v0_, .int .i64 r2]) ∧ Kd.R (Kd.int .i64) 3 w' w.heap.size (fun _ => True) v0_ r1 ∧ Below w.heap.size w w' := by
  unfold plane_Near.f at h
  split at h
  · next hl =>
    split at h
    · next ha =>
      split at h
      · next hb =>
        obtain ⟨rfl, rfl⟩ := Prod.mk.inj (Option.some.inj h)
        exact near_bad A1 c1 (a0_0, a0_1) l1 1 w hr1 (by omega) ha (Or.inl ⟨hb, rfl⟩)
      · next hb =>
        have hb' : bad l1 = false := by simpa using hb
        split at h
        · next h160 =>
          obtain ⟨rfl, rfl⟩ := Prod.mk.inj (Option.some.inj h)
          exact near_bad A1 c1 (a0_0, a0_1) l1 2 w hr1 (by omega) ha (Or.inr ⟨hb', h160, rfl⟩)
        · next h160 =>
          obtain ⟨rfl, rfl⟩ := Prod.mk.inj (Option.some.inj h)
          exact near_ok A1 c1 (a0_0, a0_1) l1 w hr1 (by omega) ha hb'
    · next ha =>
      obtain ⟨rfl, rfl⟩ := Prod.mk.inj (Option.some.inj h)
      exact near_at A1 c1 (a0_0, a0_1) l1 w (by simpa using ha)
  · cases h
end Go.Proofs.Ytlpidjenifbjeaa.Hand
