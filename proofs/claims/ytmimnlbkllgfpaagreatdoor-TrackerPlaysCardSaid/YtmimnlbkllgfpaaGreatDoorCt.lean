/- tracker's entry.counting, Table.Nodes: walked. -/
import Derived.Test.YtmimnlbkllgfpaaGreatDoorAx0
import Derived.Test.YtmimnlbkllgfpaaGreatDoorAx2
import Derived.Test.YtmimnlbkllgfpaaGreatDoorTb
namespace Go.Proofs.YtmimnlbkllgfpaaGreatDoor.Tb
open Go.RowKit Go.Maps Go.Proofs.YtmimnlbkllgfpaaGreatDoor.A Go.Proofs.YtmimnlbkllgfpaaGreatDoorW.PrintWords

theorem cntL_le (f : Nat → Option Nt) (now : Int) : ∀ m, (cntL f now m).length ≤ m
  | 0 => Nat.le_refl _
  | m + 1 => by
    have ih := cntL_le f now m
    unfold cntL
    rw [List.length_append]
    split
    · split <;> simp <;> omega
    · simp; omega
theorem info25 : (Tryz.prog.info? 35).map (fun i => (i.zero, i.size, i.bytes)) = some (some (.agg #[(.string ⟨#[]⟩), (.int .i64 0), (.int .i64 0), (.int .i64 0), (.int .i64 0)]), 5, 48) := by kernel_rfl
set_option maxHeartbeats 2000000 in
set_option maxRecDepth 100000 in
theorem counting (b : Nat) (f : Nat → Option Nt) (now : Int) (w : World) (h : Ent w b f) :
    Calls Tryz.prog 44 #[.pointer (some ⟨b, 0, none⟩), .int .i64 now] w fun e w' => ∃ v, e = .returned v ∧ Kd.R k35 35 w' w.heap.size (fun _ => True) v (cntL f now 16) ∧ Below w.heap.size w w' := by
  have HE := Aside.mk h
  clear h
  go_enter Tryz.func44, Tryz.ntmps44
  go_wp2
  go_loopw [5, 9] (fun ov iv wr => ∃ j : Nat, j ≤ 16 ∧ iv = .int .i64 j ∧ Kd.R k35 35 wr w.heap.size (fun _ => True) ov (cntL f now j) ∧ Below w.heap.size w wr) (fun _ iv _ => 16 - (intOf iv).toNat)
  case atStart => exact ⟨0, by omega, rfl, Kd.R_nil _ _ _ _ _, Below.refl _ _⟩
  case round =>
    obtain ⟨j, hj, rfl, hR, hB⟩ := hrel
    by_cases hlt : j < 16
    · have gl : (j : Int) < 16 := by omega
      have p0 : (0 : Int) ≤ (j : Int) := by omega
      have wj : IntKind.i64.wrap ((j : Int) + 1) = ((j + 1 : Nat) : Int) := by rw [IntKind.wrap_i64]; omega
      have hE2 := HE.out.mono (fun k hk => hB.block k hk)
      obtain ⟨cur, hb, hs, hf⟩ := hE2
      have hl := cntL_le f now j
      rcases hf j hlt with ⟨hn, hc⟩ | ⟨n, nb, hn, hc, hnb⟩
      · have c0 : wr.cell? ⟨b, j, none⟩ = some (.pointer none) := by unfold World.cell?; rw [hb]; simpa using hc
        have e : cntL f now (j + 1) = cntL f now j := by rw [cntL, hn]; simp
        have HX := Aside.mk (And.intro hb (And.intro hs (And.intro hf (And.intro hn hc))))
        clear hb hs hf hn hc
        go_wp2_with fail
        exact ⟨⟨j + 1, by omega, rfl, by rw [e]; exact hR, hB⟩, by show 16 - ((j + 1 : Nat) : Int).toNat < 16 - (j : Int).toNat; omega⟩
      · have c0 : wr.cell? ⟨b, j, none⟩ = some (.pointer (some ⟨nb, 0, none⟩)) := by unfold World.cell?; rw [hb]; simpa using hc
        have d0 : wr.cell? ⟨nb, 0, none⟩ = some (.string n.f0) := blk_cell hnb 0
        have d1 : wr.cell? ⟨nb, 1, none⟩ = some (.int .i64 n.f1) := blk_cell hnb 1
        have d2 : wr.cell? ⟨nb, 2, none⟩ = some (.int .i64 n.f2.f0) := blk_cell hnb 2
        have d3 : wr.cell? ⟨nb, 3, none⟩ = some (.int .i64 n.f2.f1) := blk_cell hnb 3
        have d4 : wr.cell? ⟨nb, 4, none⟩ = some (.int .i64 n.f3) := blk_cell hnb 4
        have HX := Aside.mk (And.intro hb (And.intro hs (And.intro hf (And.intro hn (And.intro hc hnb)))))
        clear hb hs hf hc hnb
        by_cases hle : now ≤ n.f3
        · have e : cntL f now (j + 1) = cntL f now j ++ [n] := by rw [cntL, hn]; simp [hle]
          have HE2 := Aside.mk e
          clear e hn
          go_wp2_with (first | ((with_reducible refine gate_builtin (b := .append) (xs := #[.tmp 24, .tmp 28]) rfl ?_); at_builtin; refine Kd.R_append k35 (w0 := w) w.heap.size rfl (.tmp 24) (.tmp 28) 60 35 (.agg #[(.string ⟨#[]⟩), (.int .i64 0), (.int .i64 0), (.int .i64 0), (.int .i64 0)]) 48 rfl Tryz.underlying60 info25 rfl (by decide) (by omega) _ (cntL f now j) n [.string n.f0, .int .i64 n.f1, .int .i64 n.f2.f0, .int .i64 n.f2.f1, .int .i64 n.f3] (fun _ => True) (fun _ => False) rfl rfl ?aP (fun _ hk => hk.elim) ?aF ?aO ?aB ?aS ?aL ?_; (case aP => exact k35_mkM _ _ _ n); (case aB => exact hB); (case aF => exact (fun _ _ => trivial)); (case aO => exact hR); (case aS => exact hB.size); (case aL => omega); intro v1 w6 hR1 hB6 _ _))
          exact ⟨⟨j + 1, by omega, rfl, by rw [HE2.out]; exact hR1, hB6⟩, by show 16 - ((j + 1 : Nat) : Int).toNat < 16 - (j : Int).toNat; omega⟩
        · have e : cntL f now (j + 1) = cntL f now j := by rw [cntL, hn]; simp [hle]
          have HE2 := Aside.mk e
          clear e hn
          go_wp2_with fail
          exact ⟨⟨j + 1, by omega, rfl, by rw [HE2.out]; exact hR, hB⟩, by show 16 - ((j + 1 : Nat) : Int).toNat < 16 - (j : Int).toNat; omega⟩
    · obtain rfl : j = 16 := by omega
      go_wp2_with fail
      go_ret
      exact ⟨_, rfl, hR, hB⟩
theorem zeroEnt (w : World) : (zeroValue 84).run Tryz.prog w = .ok (.pointer none) w := by kernel_rfl
theorem key9 (s : ByteArray) (hs : s.size ≤ maxLen) : keyOf Tryz.prog 9 (.string s) = some (.string s.data.toList) := Go.WideMaps.keyOf_string_mk Tryz.underlying9 hs
theorem Tab.look_some {W : World} {lo t bm n b : Nat} {room : Int} {D : DataW Unit} {T : List UInt8 → Nat → Option Nt} (h : Tab W lo t bm n room D T) (s : ByteArray) (hs : s.size ≤ maxLen) (hb : D.atKey (.string s.data.toList) nilD = blkD b) :
    (Instr.lookup 76 (.map (some bm)) (.string s) false).run Tryz.prog W = .ok (.pointer (some ⟨b, 0, none⟩)) W := by
  obtain ⟨v, ps, hrun, hv⟩ := h.own.lookup law9 Tryz.underlying76 (zeroEnt W) ptrE_nil (key9 s hs)
  have e : ptrE v = some (blkD b, ps) := by rw [hv]; exact congrArg (fun z => some (z, ps)) hb
  rcases ptrE_inv e with ⟨rfl, h2⟩ | ⟨b', rfl, h2⟩
  · omega
  · have : b' = b := by omega
    subst this; exact hrun
theorem Tab.look_none {W : World} {lo t bm n : Nat} {room : Int} {D : DataW Unit} {T : List UInt8 → Nat → Option Nt} (h : Tab W lo t bm n room D T) (s : ByteArray) (hs : s.size ≤ maxLen) (hb : has D (.string s.data.toList) = false) :
    (Instr.lookup 76 (.map (some bm)) (.string s) false).run Tryz.prog W = .ok (.pointer none) W := by
  obtain ⟨v, ps, hrun, hv⟩ := h.own.lookup law9 Tryz.underlying76 (zeroEnt W) ptrE_nil (key9 s hs)
  rw [atKey_of_not_has hb] at hv
  rcases ptrE_inv hv with ⟨rfl, h2⟩ | ⟨b', rfl, h2⟩
  · exact hrun
  · omega
theorem tick_eq (n : Int) : tracker_tick.f n = some (tickB n) := by
  unfold tracker_tick.f tickB
  by_cases h : n ≥ 0
  · rw [if_pos h]; congr 1; simp; intro; omega
  · rw [if_neg h]; congr 1; simp; omega
theorem cntL_none {f : Nat → Option Nt} (now : Int) (h : ∀ j, f j = none) : ∀ m, cntL f now m = []
  | 0 => rfl
  | m + 1 => by rw [cntL, cntL_none now h m, h m]; rfl
set_option maxHeartbeats 2000000 in
set_option maxRecDepth 100000 in
/-- Table.Nodes of a table that is there. -/
theorem nodes {lo t bm n : Nat} {room : Int} {D : DataW Unit} {T : List UInt8 → Nat → Option Nt} (s : ByteArray) (hs : s.size ≤ maxLen) (now : Int) (w : World) (h : Tab w lo t bm n room D T) :
    Calls Tryz.prog 20 #[.pointer (some ⟨t, 0, none⟩), .string s, .int .i64 now] w fun e w' => ∃ v, e = .returned v ∧ Kd.R k35 35 w' w.heap.size (fun _ => True) v (nodesL T s.data.toList now) ∧ Below w.heap.size w w' := by
  have hTk := fun W => tracker_tick.calls now (tickB now) W (tick_eq now)
  have c1 : w.cell? ⟨t, 1, none⟩ = some (.map (some bm)) := blk_cell h.hdr 1
  have HT := Aside.mk h
  cases htk : tickB now with
  | false =>
    have hN : nodesL T s.data.toList now = [] := by unfold nodesL; rw [htk]; rfl
    rw [hN]
    rw [htk] at hTk
    clear h hN
    go_enter Tryz.func20, Tryz.ntmps20
    go_wp2_with (go_at_call 35; refine (hTk _).mono ?_; rintro e w1 ⟨rfl, hd⟩)
    go_ret
    exact ⟨_, rfl, Kd.R_nil _ _ _ _ _, hd.below⟩
  | true =>
    rw [htk] at hTk
    have hN : nodesL T s.data.toList now = cntL (T s.data.toList) now 16 := by unfold nodesL; rw [htk]; rfl
    cases hh : has D (.string s.data.toList) with
    | false =>
      rw [hN, cntL_none now (h.gone _ hh)]
      have hlk := fun W (hb : Below w.heap.size w W) => (HT.out.below hb).look_none s hs hh
      clear h hN
      go_enter Tryz.func20, Tryz.ntmps20
      go_wp2_with (go_at_call 35; refine (hTk _).mono ?_; rintro e w1 ⟨rfl, hd⟩; have hl1 := hlk _ hd.below; have c2 := (hd.below.cell (World.block_lt_of_cell? w _ c1)).trans c1)
      go_ret
      exact ⟨_, rfl, Kd.R_nil _ _ _ _ _, hd.below⟩
    | true =>
      obtain ⟨b, hlo, hat, hent⟩ := h.ent _ hh
      rw [hN]
      have hlk := fun W (hb : Below w.heap.size w W) => (HT.out.below hb).look_some s hs hat
      have hct := fun W (hb : Below w.heap.size w W) => counting b (T s.data.toList) now W (hent.mono (fun k hk => hb.block k hk))
      clear h hN hent
      go_enter Tryz.func20, Tryz.ntmps20
      go_wp2_with (first
        | (go_at_call 35; refine (hTk _).mono ?_; rintro e w1 ⟨rfl, hd⟩; have hl1 := hlk _ hd.below; have c2 := (hd.below.cell (World.block_lt_of_cell? w _ c1)).trans c1)
        | (go_at_call 44; refine (hct _ hd.below).mono ?_; rintro e w2 ⟨v, rfl, hR, hb2⟩))
      go_ret
      exact ⟨_, rfl, Kd.R_lower hR hd.below.size, hd.below.trans (hb2.mono hd.below.size)⟩
end Go.Proofs.YtmimnlbkllgfpaaGreatDoor.Tb
