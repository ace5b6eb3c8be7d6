/- Table.Find: walked. -/
import Derived.Test.YtmimnlbkllgfpaaGreatDoorAx0
import Derived.Test.YtmimnlbkllgfpaaGreatDoorAx2
import Derived.Test.YtmimnlbkllgfpaaGreatDoorAw
import Derived.Test.YtmimnlbkllgfpaaGreatDoorNe
namespace Go.Proofs.YtmimnlbkllgfpaaGreatDoor.Tb
set_option linter.unusedVariables false
set_option linter.unusedSimpArgs false
open Go.RowKit Go.Maps Go.Proofs.YtmimnlbkllgfpaaGreatDoor.A Go.Proofs.YtmimnlbkllgfpaaGreatDoorW.PrintWords Go.Proofs.YtmimnlbkllgfpaaGreatDoor.Di Go.Proofs.YtmimnlbkllgfpaaGreatDoor.So
set_option linter.unusedSimpArgs false

/-- Where a note is. -/
def ntP (x : Nt) : Int × Int := (x.f2.f0, x.f2.f1)
/-- All notes are where one may be. -/
def OkT (T : TT) : Prop := ∀ s j x, T s j = some x → okP (ntP x) = true
/-- Who is found among those that count. -/
def foundL (ns : List Nt) (a : Int × Int) (k : Nat) : List Int := ((nearL (dst a (ns.map ntP)) ns.length).take k).map (fun i => (rd_T35 ns i).f1)
/-- What Find answers. -/
def findL (T : TT) (s : List UInt8) (a : Int × Int) (k now : Int) : List Int × Int :=
  if tickB now = true ∧ okP a = true ∧ 0 ≤ k then (if nodesL T s now = [] then ([], 4) else (foundL (nodesL T s now) a k.toNat, 0)) else ([], 1)
theorem cntL_mem {f : Nat → Option Nt} {now : Int} {x : Nt} : ∀ {m : Nat}, x ∈ cntL f now m → ∃ j, j < m ∧ f j = some x ∧ now ≤ x.f3
  | 0, h => by cases h
  | m + 1, h => by
    rw [cntL] at h
    rcases List.mem_append.1 h with h | h
    · obtain ⟨j, hj, h1⟩ := cntL_mem h
      exact ⟨j, Nat.lt_succ_of_lt hj, h1⟩
    · split at h
      · next y hy =>
        split at h
        · next hn =>
          obtain rfl := List.mem_singleton.1 h
          exact ⟨m, Nat.lt_succ_self m, hy, hn⟩
        · cases h
      · cases h
theorem nodesL_mem {T : TT} {s : List UInt8} {now : Int} {x : Nt} (h : x ∈ nodesL T s now) : ∃ j, j < 16 ∧ T s j = some x ∧ now ≤ x.f3 := by
  unfold nodesL at h
  split at h
  · exact cntL_mem h
  · cases h
theorem nodesL_le (T : TT) (s : List UInt8) (now : Int) : (nodesL T s now).length ≤ 16 := by
  unfold nodesL
  split
  · exact cntL_le _ _ _
  · exact Nat.zero_le _
theorem checkP (a : Int × Int) (w : World) : Calls Tryz.prog 37 #[.agg #[.int .i64 a.1, .int .i64 a.2]] w fun e w' => e = .returned (.bool (okP a)) ∧ Below w.heap.size w w' :=
  (plane_Check.calls a.1 a.2 (okP a) w (Di.check_eq a.1 a.2)).mono fun _ _ h => ⟨h.1, h.2⟩
/-- A row of places that is one's own. -/
theorem pls_of_R {w : World} {base : Nat} {ok : Nat → Prop} {v : Value} {ps : List S24} (h : Kd.R k24 24 w base ok v ps) (hne : ps ≠ []) :
    ∃ g c, v = .slice (some ⟨g, 0, none⟩) ps.length c ∧ g < w.heap.size ∧ Pls w g (ps.map fun p => (p.f0, p.f1)) := by
  obtain ⟨A, c, rfl, hlc, hC⟩ := Kd.R_reads h
  obtain ⟨inner, ho⟩ := Kd.R_own h
  have hpos : 0 < ps.length := List.length_pos_iff.mpr hne
  rcases ho.2 with ⟨_, h0⟩ | ⟨g, cap, cur, hv, hg, hcur, hncap, _, hsz, htake⟩
  · omega
  injection hv with h1 h2 h3
  subst h1
  refine ⟨g, c, rfl, (Array.getElem?_eq_some_iff.1 hcur).1, fun k x hx => ?_⟩
  rw [List.getElem?_map] at hx
  obtain ⟨p, hp, rfl⟩ := Option.map_eq_some_iff.1 hx
  have hk : k < ps.length := by
    rcases Nat.lt_or_ge k ps.length with h | h
    · exact h
    · rw [List.getElem?_eq_none h] at hp; cases hp
  obtain ⟨ad, hA, c0, c1⟩ := at_T24 hC (k : Int) (by omega) (by omega)
  obtain rfl := Option.some.inj hA
  have e : rd_T24 ps (k : Int) = p := by unfold rd_T24; rw [Int.toNat_natCast, List.getD_eq_getElem?_getD, hp]; rfl
  rw [e] at c0 c1
  have ha : (⟨g, 0, none⟩ : Addr).add ((k : Int).toNat * 2) = ⟨g, k * 2, none⟩ := by
    rw [Int.toNat_natCast]
    unfold Addr.add
    split
    · next z => rw [z]
    · simp
  rw [ha] at c0 c1
  exact ⟨c0, c1⟩
set_option maxHeartbeats 4000000 in
set_option maxRecDepth 100000 in
/-- Find of what may not be asked, or where nothing counts. -/
theorem find_none {lo t bm n : Nat} {room : Int} {D : DataW Unit} {T : TT} (s : ByteArray) (hs : s.size ≤ maxLen) (a : Int × Int) (k now : Int) (w : World) (h : Tab w lo t bm n room D T)
    (hn : ¬ (tickB now = true ∧ okP a = true ∧ 0 ≤ k ∧ nodesL T s.data.toList now ≠ [])) :
    Calls Tryz.prog 13 #[.pointer (some ⟨t, 0, none⟩), .string s, .agg #[.int .i64 a.1, .int .i64 a.2], .int .i64 k, .int .i64 now] w fun e w' => e = .returned (.tuple #[.slice none 0 0, .int .i64 (findL T s.data.toList a k now).2]) ∧ (findL T s.data.toList a k now).1 = [] ∧ Below w.heap.size w w' := by
  have hTk := fun W => tracker_tick.calls now (tickB now) W (tick_eq now)
  have hCk := fun W => checkP a W
  obtain ⟨p0, p1⟩ := a
  have hB1 : Below w.heap.size w (w.alloc (.cells #[.int .i64 p0, .int .i64 p1] 24)) := (Below.refl _ w).alloc (Nat.le_refl _) _
  have hn1 : (w.alloc (.cells #[.int .i64 p0, .int .i64 p1] 24)).heap[w.heap.size]? = some (.cells #[.int .i64 p0, .int .i64 p1] 24 (0, 0)) := blk_new w _
  have hN := fun W hT => nodes (T := T) (D := D) (lo := lo) (t := t) (bm := bm) (n := n) (room := room) s hs now W hT
  have hT1 := h.below hB1
  have e0 := blk_cell hn1 0
  have e1 := blk_cell hn1 1
  unfold findL
  by_cases htk : tickB now = true
  · rw [htk] at hTk
    by_cases ho : okP (p0, p1) = true
    · rw [ho] at hCk
      by_cases hk : 0 ≤ k
      · have hNil : nodesL T s.data.toList now = [] := by
          rcases Classical.em (nodesL T s.data.toList now = []) with h | h
          · exact h
          · exact absurd ⟨htk, ho, hk, h⟩ hn
        rw [if_pos ⟨htk, ho, hk⟩, if_pos hNil]
        rw [hNil] at hN
        have gk : ¬ k < 0 := by omega
        clear h hn hNil
        go_enter Tryz.func13, Tryz.ntmps13
        go_wp2_with (first
          | (go_at_call 35; refine (hTk _).mono ?_; rintro e w1 ⟨rfl, hd1⟩; have hT2 := hT1.below hd1.below; have hB2 := hB1.trans (hd1.below.mono hB1.size); have e0 := blk_cell (blk_below hn1 hd1.below) 0; have e1 := blk_cell (blk_below hn1 hd1.below) 1)
          | (go_at_call 37; refine (hCk _).mono ?_; rintro e w2 ⟨rfl, hb2⟩; have hT3 := hT2.below hb2; have hB3 := hB2.trans (hb2.mono hB2.size))
          | (go_at_call 20; refine (hN _ hT3).mono ?_; rintro e w3 ⟨v, rfl, hR, hb3⟩; obtain ⟨A, c, rfl, _, _⟩ := Kd.R_reads hR))
        go_ret2
        exact ⟨rfl, trivial, hB3.trans (hb3.mono hB3.size)⟩
      · rw [if_neg (fun q => hk q.2.2)]
        have gk : k < 0 := by omega
        clear h hn
        go_enter Tryz.func13, Tryz.ntmps13
        go_wp2_with (first
          | (go_at_call 35; refine (hTk _).mono ?_; rintro e w1 ⟨rfl, hd1⟩; have hB2 := hB1.trans (hd1.below.mono hB1.size); have e0 := blk_cell (blk_below hn1 hd1.below) 0; have e1 := blk_cell (blk_below hn1 hd1.below) 1)
          | (go_at_call 37; refine (hCk _).mono ?_; rintro e w2 ⟨rfl, hb2⟩; have hB3 := hB2.trans (hb2.mono hB2.size)))
        go_ret2
        exact ⟨rfl, trivial, hB3⟩
    · rw [if_neg (fun q => ho q.2.1)]
      rw [Bool.not_eq_true] at ho
      rw [ho] at hCk
      clear h hn
      go_enter Tryz.func13, Tryz.ntmps13
      go_wp2_with (first
        | (go_at_call 35; refine (hTk _).mono ?_; rintro e w1 ⟨rfl, hd1⟩; have hB2 := hB1.trans (hd1.below.mono hB1.size); have e0 := blk_cell (blk_below hn1 hd1.below) 0; have e1 := blk_cell (blk_below hn1 hd1.below) 1)
        | (go_at_call 37; refine (hCk _).mono ?_; rintro e w2 ⟨rfl, hb2⟩; have hB3 := hB2.trans (hb2.mono hB2.size)))
      go_ret2
      exact ⟨rfl, trivial, hB3⟩
  · rw [if_neg (fun q => htk q.1)]
    rw [Bool.not_eq_true] at htk
    rw [htk] at hTk
    clear h hn
    go_enter Tryz.func13, Tryz.ntmps13
    go_wp2_with (go_at_call 35; refine (hTk _).mono ?_; rintro e w1 ⟨rfl, hd1⟩; have hB2 := hB1.trans (hd1.below.mono hB1.size))
    go_ret2
    exact ⟨rfl, trivial, hB2⟩

theorem nearL_at {d : Int → Int} {n j : Nat} (h : j < n) : ∃ i : Nat, i < n ∧ (nearL d n)[j]? = some (i : Int) := by
  have hl := nearL_len d n
  have hm : (nearL d n)[j]'(by omega) ∈ nearL d n := List.getElem_mem _
  obtain ⟨h0, h1⟩ := (nearL_mem d n _).1 hm
  refine ⟨((nearL d n)[j]'(by omega)).toNat, by omega, ?_⟩
  rw [List.getElem?_eq_getElem (by omega)]
  congr 1
  omega
set_option maxHeartbeats 8000000 in
set_option maxRecDepth 100000 in
/-- Find of what may be asked, where something counts. -/
theorem find_some {lo t bm n : Nat} {room : Int} {D : DataW Unit} {T : TT} (s : ByteArray) (hs : s.size ≤ maxLen) (a : Int × Int) (k now : Int) (w : World) (h : Tab w lo t bm n room D T) (hO : OkT T)
    (htk : tickB now = true) (ho : okP a = true) (hk : 0 ≤ k) (hne : nodesL T s.data.toList now ≠ []) :
    Calls Tryz.prog 13 #[.pointer (some ⟨t, 0, none⟩), .string s, .agg #[.int .i64 a.1, .int .i64 a.2], .int .i64 k, .int .i64 now] w fun e w' => ∃ v, e = .returned (.tuple #[v, .int .i64 0]) ∧ Kd.R (Kd.int .i64) 3 w' w.heap.size (fun _ => True) v (foundL (nodesL T s.data.toList now) a k.toNat) ∧ Below w.heap.size w w' := by
  have hTk := fun W => tracker_tick.calls now true W (by rw [tick_eq, htk])
  have hCk := fun W => checkP a W
  rw [ho] at hCk
  have hN := fun W hT => nodes (T := T) (D := D) (lo := lo) (t := t) (bm := bm) (n := n) (room := room) s hs now W hT
  have hokn : ∀ x ∈ nodesL T s.data.toList now, okP (ntP x) = true := fun x hx => by
    obtain ⟨j, _, h1, _⟩ := nodesL_mem hx
    exact hO _ _ _ h1
  have hle := nodesL_le T s.data.toList now
  generalize nodesL T s.data.toList now = ns at *
  have hpos : (0 : Int) < (ns.length : Int) := by have := List.length_pos_iff.mpr hne; omega
  have hbz : ((ns.length : Int) == 0) = false := by rw [beq_eq_false_iff_ne]; omega
  have HO := Aside.mk (And.intro ho (And.intro hokn hne))
  obtain ⟨p0, p1⟩ := a
  have hB1 : Below w.heap.size w (w.alloc (.cells #[.int .i64 p0, .int .i64 p1] 24)) := (Below.refl _ w).alloc (Nat.le_refl _) _
  have hn1 : (w.alloc (.cells #[.int .i64 p0, .int .i64 p1] 24)).heap[w.heap.size]? = some (.cells #[.int .i64 p0, .int .i64 p1] 24 (0, 0)) := blk_new w _
  have hT1 := h.below hB1
  have e0 := blk_cell hn1 0
  have e1 := blk_cell hn1 1
  have gk : ¬ k < 0 := by omega
  clear h hokn hne htk ho
  go_enter Tryz.func13, Tryz.ntmps13
  go_wp2_with (first
    | (go_at_call 35; refine (hTk _).mono ?_; rintro e w1 ⟨rfl, hd1⟩; have hT2 := hT1.below hd1.below; have hB2 := hB1.trans (hd1.below.mono hB1.size); have hn2 := blk_below hn1 hd1.below; have e0 := blk_cell hn2 0; have e1 := blk_cell hn2 1)
    | (go_at_call 37; refine (hCk _).mono ?_; rintro e w2 ⟨rfl, hb2⟩; have hT3 := hT2.below hb2; have hB3 := hB2.trans (hb2.mono hB2.size); have hn3 := blk_below hn2 hb2)
    | (go_at_call 20; refine (hN _ hT3).mono ?_; rintro e w3 ⟨v, rfl, hR, hb3⟩; obtain ⟨A, c, rfl, hlc, hC⟩ := Kd.R_reads hR; have hB4 := hB3.trans (hb3.mono hB3.size); have hn4 := blk_below hn3 hb3))
  have HR := Aside.mk (And.intro hR (And.intro hB4 (And.intro hn4 hlc)))
  have info23 : (Tryz.prog.info? 24).map (fun i => (i.zero, i.size, i.bytes)) = some (some (.agg #[(.int .i64 0), (.int .i64 0)]), 2, 16) := by kernel_rfl
  have info3 : (Tryz.prog.info? 3).map (fun i => (i.zero, i.size, i.bytes)) = some (some (.int .i64 0), 1, 8) := by kernel_rfl
  have zero25 : ∀ W : World, (zeroValue 35).run Tryz.prog W = .ok (.agg #[(.string ⟨#[]⟩), (.int .i64 0), (.int .i64 0), (.int .i64 0), (.int .i64 0)]) W := fun W => by kernel_rfl
  clear hR hB1 hB2 hB3 hB4 hn1 hn2 hn3 hn4 hT1 hT2 hT3 hTk hCk hN hb2 hb3 hd1 e0 e1
  go_loopw [13, 46] (fun ov iv wr => ∃ j : Nat, j ≤ ns.length ∧ iv = .int .i64 j ∧ Kd.R k24 24 wr w3.heap.size (fun _ => True) ov ((ns.take j).map (·.f2)) ∧ Below w3.heap.size w3 wr) (fun _ iv _ => ns.length - (intOf iv).toNat)
  case atStart => exact ⟨0, by omega, rfl, Kd.R_nil _ _ _ _ _, Below.refl _ _⟩
  case round =>
    obtain ⟨j, hj, rfl, hRp, hB⟩ := hrel
    by_cases hlt : j < ns.length
    · have gl : (j : Int) < (ns.length : Int) := by omega
      have p0j : (0 : Int) ≤ (j : Int) := by omega
      have wj : IntKind.i64.wrap ((j : Int) + 1) = ((j + 1 : Nat) : Int) := by rw [IntKind.wrap_i64]; omega
      obtain ⟨ad, rfl, d0, d1, d2, d3, d4⟩ := at_T35 (Kd.C_below hC hB) (j : Int) p0j gl
      have e : (ns.take (j + 1)).map (·.f2) = (ns.take j).map (·.f2) ++ [(rd_T35 ns (j : Int)).f2] := by
        rw [List.take_add_one, List.map_append]
        unfold rd_T35
        rw [Int.toNat_natCast, List.getD_eq_getElem?_getD, List.getElem?_eq_getElem hlt]; rfl
      have hfl : ((ns.take j).map (·.f2)).length ≤ 16 := by rw [List.length_map, List.length_take]; omega
      have HE := Aside.mk e
      clear e
      generalize (ns.take j).map (·.f2) = fl at *
      generalize rd_T35 ns (j : Int) = x at *
      rw [Int.toNat_natCast] at d0 d1 d2 d3 d4
      have hBx := hB.alloc hB.size (.cells #[.string x.f0, .int .i64 x.f1, .int .i64 x.f2.f0, .int .i64 x.f2.f1, .int .i64 x.f3] 35)
      have hRx := Kd.R_below hRp ((Below.refl wr.heap.size wr).alloc (Nat.le_refl _) (.cells #[.string x.f0, .int .i64 x.f1, .int .i64 x.f2.f0, .int .i64 x.f2.f1, .int .i64 x.f3] 35))
      go_wp2_with (first | ((with_reducible refine gate_builtin (b := .append) (xs := #[.tmp 50, .tmp 53]) rfl ?_); at_builtin; refine Kd.R_append k24 (w0 := w3) w3.heap.size rfl (.tmp 50) (.tmp 53) 68 24 (.agg #[(.int .i64 0), (.int .i64 0)]) 16 rfl Tryz.underlying68 info23 rfl (by decide) (by omega) _ fl x.f2 [.int .i64 x.f2.f0, .int .i64 x.f2.f1] (fun _ => True) (fun _ => False) rfl (by show Value.slice (some ⟨wr.heap.size + 1, 0, none⟩) 1 1 = _; simp) ?aP (fun _ hk => hk.elim) ?aF ?aO ?aB ?aS ?aL ?_; (case aP => exact k24_mkM _ _ _ x.f2); (case aB => exact hBx); (case aF => exact (fun _ _ => trivial)); (case aO => exact hRx); (case aS => exact hBx.size); (case aL => omega); intro v1 w6 hR1 hB6 _ _))
      exact ⟨⟨j + 1, by omega, rfl, by rw [HE.out]; exact hR1, hB6⟩, by show ns.length - ((j + 1 : Nat) : Int).toNat < ns.length - (j : Int).toNat; omega⟩
    · obtain rfl : j = ns.length := by omega
      rw [List.take_length] at hRp
      obtain ⟨g, cg, rfl, hg, hP⟩ := pls_of_R hRp (by intro h; exact HO.out.2.2 (List.map_eq_nil_iff.1 h))
      rw [List.map_map, show ((fun p : S24 => (p.f0, p.f1)) ∘ (fun x : Nt => x.f2)) = ntP from rfl] at hP
      rw [List.length_map] at *
      have hln : (ns.map ntP).length = ns.length := List.length_map ..
      have hNear := near g cg (p0, p1) (ns.map ntP) wr hP hg (by rw [hln]; omega) (by intro h; exact HO.out.2.2 (List.map_eq_nil_iff.1 h)) HO.out.1 (fun x hx => by
        obtain ⟨y, hy, rfl⟩ := List.mem_map.1 hx
        exact HO.out.2.1 y hy)
      rw [hln] at hNear
      have hn5 := blk_below HR.out.2.2.1 hB
      have e0 := blk_cell hn5 0
      have e1 := blk_cell hn5 1
      have gl : ¬ (ns.length : Int) < (ns.length : Int) := by omega
      clear hn5 hP hg
      go_wp2_with (go_at_call 38; refine hNear.mono ?_; rintro e w5 ⟨g2, cap, hcap, rfl, hb5, hL⟩)
      obtain ⟨m, hm⟩ : ∃ m : Nat, min k (ns.length : Int) = (m : Int) := ⟨(min k (ns.length : Int)).toNat, by omega⟩
      have hmx : max (m : Int) 0 = (m : Int) := by omega
      have hmn : m ≤ ns.length := by omega
      have hres : foundL ns (p0, p1) k.toNat = ((nearL (dst (p0, p1) (ns.map ntP)) ns.length).take m).map (fun i => (rd_T35 ns i).f1) := by
        unfold foundL
        congr 1
        have hl := nearL_len (dst (p0, p1) (ns.map ntP)) ns.length
        rw [List.take_eq_take_iff, hl]
        omega
      rw [hm, Int.toNat_natCast, hmx]
      have hLA := fun j (h : j < ns.length) => nearL_at (d := dst (p0, p1) (ns.map ntP)) h
      have hLL := nearL_len (dst (p0, p1) (ns.map ntP)) ns.length
      generalize nearL (dst (p0, p1) (ns.map ntP)) ns.length = L at *
      have HM := Aside.mk (And.intro hm (And.intro hmx hres))
      clear hm hmx hres hNear
      go_loopw [18, 69] (fun ov iv wx => ∃ j : Nat, j ≤ m ∧ iv = .int .i64 j ∧ Kd.R (Kd.int .i64) 3 wx w5.heap.size (fun _ => True) ov ((L.take j).map (fun i => (rd_T35 ns i).f1)) ∧ Below w5.heap.size w5 wx) (fun _ iv _ => m - (intOf iv).toNat)
      case atStart => exact ⟨0, by omega, rfl, Kd.R_nil _ _ _ _ _, Below.refl _ _⟩
      case round =>
        obtain ⟨j, hj, rfl, hRo, hBo⟩ := hrel
        by_cases hlt : j < m
        · have gl2 : (j : Int) < (m : Int) := by omega
          have p0j : (0 : Int) ≤ (j : Int) := by omega
          have wj : IntKind.i64.wrap ((j : Int) + 1) = ((j + 1 : Nat) : Int) := by rw [IntKind.wrap_i64]; omega
          obtain ⟨i, hi, hLi⟩ := hLA j (by omega)
          have c0 := (hBo.cell (World.block_lt_of_cell? w5 _ (hL j _ hLi))).trans (hL j _ hLi)
          have gi : (i : Int) < (ns.length : Int) := by omega
          have p0i : (0 : Int) ≤ (i : Int) := by omega
          obtain ⟨ad, rfl, d0, d1, d2, d3, d4⟩ := at_T35 (Kd.C_below hC (hB.trans ((hb5.mono hB.size).trans (hBo.mono (Nat.le_trans hB.size hb5.size))))) (i : Int) p0i gi
          have e : (L.take (j + 1)).map (fun i => (rd_T35 ns i).f1) = (L.take j).map (fun i => (rd_T35 ns i).f1) ++ [(rd_T35 ns (i : Int)).f1] := by
            rw [List.take_add_one, List.map_append, hLi]; rfl
          have hfl : ((L.take j).map (fun i => (rd_T35 ns i).f1)).length ≤ 16 := by rw [List.length_map, List.length_take]; omega
          have HE := Aside.mk e
          clear e
          generalize (L.take j).map (fun i => (rd_T35 ns i).f1) = fl at *
          generalize rd_T35 ns (i : Int) = x at *
          rw [Int.toNat_natCast] at d0 d1 d2 d3 d4
          go_wp2_with (first | ((with_reducible refine gate_builtin (b := .append) (xs := #[.tmp 73, .tmp 79]) rfl ?_); at_builtin; refine Kd.R_append (Kd.int .i64) (w0 := w5) w5.heap.size rfl (.tmp 73) (.tmp 79) 48 3 (.int .i64 0) 8 rfl Tryz.underlying48 info3 rfl (by decide) (by omega) _ fl x.f1 [.int .i64 x.f1] (fun _ => True) (fun _ => False) rfl rfl ?aP (fun _ hk => hk.elim) ?aF ?aO ?aB ?aS ?aL ?_; (case aP => exact rfl); (case aB => exact hBo); (case aF => exact (fun _ _ => trivial)); (case aO => exact hRo); (case aS => exact hBo.size); (case aL => omega); intro v1 w6 hR1 hB6 _ _))
          exact ⟨⟨j + 1, by omega, rfl, by rw [HE.out]; exact hR1, hB6⟩, by show m - ((j + 1 : Nat) : Int).toNat < m - (j : Int).toNat; omega⟩
        · obtain rfl : j = m := by omega
          have gl2 : ¬ (j : Int) < (j : Int) := by omega
          go_wp2_with fail
          go_ret2
          have hsz5 : w.heap.size ≤ w5.heap.size := Nat.le_trans HR.out.2.1.size (Nat.le_trans hB.size hb5.size)
          refine ⟨_, rfl, ?_, HR.out.2.1.trans ((hB.trans ((hb5.mono hB.size).trans (hBo.mono (Nat.le_trans hB.size hb5.size)))).mono HR.out.2.1.size)⟩
          rw [HM.out.2.2]
          exact Kd.R_lower hRo hsz5
end Go.Proofs.YtmimnlbkllgfpaaGreatDoor.Tb
