/- Table.Names, Table.Len: walked. -/
import Derived.Test.YtmimnlbkllgfpaaGreatDoorAx0
import Derived.Test.YtmimnlbkllgfpaaGreatDoorCt
import Derived.Test.YtmimnlbkllgfpaaGreatDoorIt
namespace Go.Proofs.YtmimnlbkllgfpaaGreatDoor.Tb
open Go.RowKit Go.Maps Go.Sort Go.Proofs.YtmimnlbkllgfpaaGreatDoor.A Go.Proofs.YtmimnlbkllgfpaaGreatDoorW.PrintWords

def ba (s : List UInt8) : ByteArray := ⟨s.toArray⟩
theorem ba_data (s : List UInt8) : (ba s).data.toList = s := rfl
theorem enc_ba (s : List UInt8) : encStr s = .string (ba s) := rfl
def there (T : List UInt8 → Nat → Option Nt) (now : Int) (s : List UInt8) : Bool := !(nodesL T s now).isEmpty
theorem there_iff (T : List UInt8 → Nat → Option Nt) (now : Int) (s : List UInt8) : there T now s = true ↔ nodesL T s now ≠ [] := by
  unfold there; rw [Bool.not_eq_true', List.isEmpty_eq_false_iff]
theorem nodesL_none {T : List UInt8 → Nat → Option Nt} {s : List UInt8} (now : Int) (h : ∀ j, T s j = none) : nodesL T s now = [] := by
  unfold nodesL; split
  · exact cntL_none now h 16
  · rfl
theorem mem_strKeys {W : World} {bm n : Nat} {D : DataW Unit} (hown : W.ownsMap Tryz.prog 9 ptrE bm n D) (s : List UInt8) : s ∈ strKeys D ↔ has D (.string s) = true := by
  obtain ⟨es, rfl, hko⟩ := hown.keysOf
  rw [has_eq, List.any_eq_true]
  show s ∈ es.map (fun p => strOf p.1) ↔ _
  rw [List.mem_map]
  constructor
  · rintro ⟨p, hp, rfl⟩
    obtain ⟨v, hv⟩ := hko p hp
    obtain ⟨x, _, hx, _⟩ := Maps.keyOf_str Tryz.underlying9 hv
    exact ⟨p, hp, by rw [hx]; simp [Lit.sameKey, strOf]⟩
  · rintro ⟨p, hp, h⟩
    obtain ⟨v, hv⟩ := hko p hp
    obtain ⟨x, _, hx, _⟩ := Maps.keyOf_str Tryz.underlying9 hv
    rw [hx] at h
    exact ⟨p, hp, by rw [hx]; simpa [Lit.sameKey, strOf] using h⟩
theorem nodup_strKeys {W : World} {bm n : Nat} {D : DataW Unit} (hown : W.ownsMap Tryz.prog 9 ptrE bm n D) : (strKeys D).Nodup := by
  obtain ⟨es, hD, hpw, _⟩ := hown.entries law9
  obtain ⟨es', hD', hko⟩ := hown.keysOf
  obtain rfl : es = es' := by rw [hD] at hD'; simpa using hD'
  subst hD
  show (es.map fun p => strOf p.1).Nodup
  refine List.pairwise_map.2 (hpw.imp_of_mem fun {p q} hp' hq' hne e => hne ?_)
  obtain ⟨v, hv⟩ := hko p hp'
  obtain ⟨a, _, ha, _⟩ := Maps.keyOf_str Tryz.underlying9 hv
  obtain ⟨v', hv'⟩ := hko q hq'
  obtain ⟨b, _, hb, _⟩ := Maps.keyOf_str Tryz.underlying9 hv'
  rw [ha, hb] at e ⊢
  exact congrArg _ e
/-- The names that are there, in their order. -/
def namesL (T : List UInt8 → Nat → Option Nt) (now : Int) (D : DataW Unit) : List (List UInt8) := ((strKeys D).mergeSort leB).filter (there T now)
theorem namesAre {W : World} {lo t bm n : Nat} {room : Int} {D : DataW Unit} {T : List UInt8 → Nat → Option Nt} (h : Tab W lo t bm n room D T) (now : Int) : NamesAre T now (namesL T now D) := by
  refine ⟨(((List.mergeSort_perm _ _).nodup_iff.2 (nodup_strKeys h.own)).sublist List.filter_sublist), fun s => ?_⟩
  unfold namesL
  rw [List.mem_filter, there_iff, (List.mergeSort_perm _ _).mem_iff, mem_strKeys h.own]
  constructor
  · exact fun h => h.2
  · intro hs
    refine ⟨?_, hs⟩
    cases hh : has D (.string s) with
    | true => rfl
    | false => exact absurd (nodesL_none now (h.gone s hh)) hs
theorem info9 : (Tryz.prog.info? 9).map (fun i => (i.zero, i.size, i.bytes)) = some (some (.string ⟨#[]⟩), 1, 16) := by kernel_rfl
theorem keys_calls (mb : Option Nat) (W : World) : Calls Tryz.prog 46 #[.map mb] W fun e w' => e = .returned (.func (.func 73) #[] #[.pointer (some ⟨W.heap.size, 0, none⟩)]) ∧ w' = W.alloc (.cells #[.map mb] 76) :=
  callsIn_wide.1 (Tryz.maps_Keys_46 mb W)
theorem sorted_calls (b nn : Nat) (D0 : DataW Unit) (w : World) (hown : w.ownsMap Tryz.prog 9 ptrE b nn D0) (hn : nn ≤ 100000) :
    Calls Tryz.prog 45 #[.func (.func 73) #[] #[.pointer (some ⟨w.heap.size, 0, none⟩)]] (w.alloc (.cells #[.map (some b)] 76)) fun e w' => ∃ v, e = .returned v ∧
      w'.ownsRow w.heap.size 9 1 v (strKeys D0).length (((strKeys D0).mergeSort leB).map encStr) ∧ Below w.heap.size w w' := by
  have hs := hown.size_le
  refine (callsIn_wide.1 (Tryz.slices_Sorted_keys_45_46 b nn D0 ptrE w hown (by unfold maxLen; omega) (by omega))).mono ?_
  rintro e w' ⟨v, ss, rfl, hp, hrow, _, hb⟩
  have hB : Below w.heap.size w (w.alloc (.cells #[.map (some b)] 76)) := (Below.refl _ w).alloc (Nat.le_refl _) _
  refine ⟨v, rfl, ?_, hB.trans (hb.mono hB.size)⟩
  rw [← hp.length_eq, ← mergeSort_of_perm hp]
  exact ownsRow_base_a hrow hB.size
set_option maxHeartbeats 4000000 in
set_option maxRecDepth 100000 in
theorem names {lo t bm n : Nat} {room : Int} {D : DataW Unit} {T : List UInt8 → Nat → Option Nt} (now : Int) (w : World) (h : Tab w lo t bm n room D T) (hn : n ≤ 100000) :
    Calls Tryz.prog 23 #[.pointer (some ⟨t, 0, none⟩), .int .i64 now] w fun e w' => ∃ v, e = .returned v ∧ Kd.R Kd.string 9 w' w.heap.size (fun _ => True) v ((namesL T now D).map ba) ∧ Below w.heap.size w w' := by
  have c1 : w.cell? ⟨t, 1, none⟩ = some (.map (some bm)) := blk_cell h.hdr 1
  have hk := fun mb W => keys_calls mb W
  have hS := sorted_calls bm n D w h.own hn
  have hle := strKeys_le h.own Tryz.underlying9
  have hsz := h.own.size_le
  have hsl : (strKeys D).length ≤ 100000 := by
    have : (strKeys D).length = Maps.size D := by
      obtain ⟨es, rfl, _⟩ := h.own.keysOf
      show (es.map _).length = es.length
      rw [List.length_map]
    omega
  obtain ⟨sl, hsl2⟩ : ∃ sl, sl = (strKeys D).mergeSort leB := ⟨_, rfl⟩
  have hlen : sl.length = (strKeys D).length := by rw [hsl2]; exact (List.mergeSort_perm _ _).length_eq
  have hle2 : ∀ x ∈ sl, x.length ≤ maxLen := fun x hx => hle x (by rw [hsl2] at hx; exact (List.mergeSort_perm _ _).mem_iff.1 hx)
  have hNL : namesL T now D = sl.filter (there T now) := by rw [hsl2]; rfl
  rw [← hsl2, ← hlen] at hS
  rw [hNL]
  rw [← hlen] at hsl
  have HT := Aside.mk h
  have HL := Aside.mk (And.intro hsl hle2)
  clear h hle hsz hsl2 hlen hle2 hNL hsl
  go_enter Tryz.func23, Tryz.ntmps23
  go_wp2_with (first
    | (go_at_call 46; refine (hk _ _).mono ?_; rintro e w' ⟨rfl, rfl⟩)
    | (go_at_call 45; refine hS.mono ?_; rintro e w1 ⟨v, rfl, hrow, hb1⟩; rcases hrow.2 with ⟨rfl, h0⟩ | ⟨g, cap, cur, rfl, hg, hcur, hncap, _, hszc, htake⟩))
  · obtain rfl := List.length_eq_zero_iff.mp h0
    clear hrow
    refine wp_loop_rounds 1 ?_
    rw [rounds_succ]
    go_wp2
    go_ret
    exact ⟨_, rfl, Kd.R_nil _ _ _ _ _, hb1⟩
  · have HR := Aside.mk (And.intro hrow (And.intro hcur (And.intro hncap (And.intro hszc htake))))
    have HB1 := Aside.mk hb1
    have hnl := HL.out.1
    clear hrow hcur hncap hszc htake hb1 hS hk
    go_loopw [5, 17] (fun ov iv wr => ∃ j : Nat, j ≤ sl.length ∧ iv = .int .i64 j ∧ Kd.R Kd.string 9 wr w.heap.size (fun k => k ≠ g) ov (((sl.take j).filter (there T now)).map ba) ∧ Below w.heap.size w wr ∧ Aside (wr.heap[g]? = some (.cells cur 9 (0, 0)) ∧ g < wr.heap.size)) (fun _ iv _ => sl.length - (intOf iv).toNat)
    case atStart => exact ⟨0, by omega, rfl, Kd.R_nil _ _ _ _ _, HB1.out, ⟨HR.out.2.1, (Array.getElem?_eq_some_iff.1 HR.out.2.1).1⟩⟩
    case round =>
      obtain ⟨j, hj, rfl, hR, hB, hG⟩ := hrel
      by_cases hlt : j < sl.length
      · obtain ⟨s, hs⟩ : ∃ s, sl[j]? = some s := ⟨_, List.getElem?_eq_getElem hlt⟩
        have c2 : wr.cell? ⟨g, j, none⟩ = some (.string (ba s)) := by
          rw [blk_cell hG.out.1 j]
          have h1 : (cur.toList.take (sl.length * 1))[j]? = some (encStr s) := by
            rw [HR.out.2.2.2.2, List.getElem?_map, hs]; rfl
          rw [List.getElem?_take_of_lt (by omega)] at h1
          rw [enc_ba] at h1
          simpa using h1
        have hnd := fun W (hb : Below w.heap.size w W) => nodes (ba s) (HL.out.2 s (List.mem_of_getElem? hs)) now W (HT.out.below hb)
        have gl : (j : Int) < (sl.length : Int) := by omega
        have p0 : (0 : Int) ≤ (j : Int) := by omega
        have wj : IntKind.i64.wrap ((j : Int) + 1) = ((j + 1 : Nat) : Int) := by rw [IntKind.wrap_i64]; omega
        have c1r := (hB.cell (World.block_lt_of_cell? w _ c1)).trans c1
        have ht : sl.take (j + 1) = sl.take j ++ [s] := by rw [List.take_add_one, hs]; rfl
        have hfl : (((sl.take j).filter (there T now)).map ba).length ≤ 100000 := by
          rw [List.length_map]
          exact Nat.le_trans (List.length_filter_le _ _) (by rw [List.length_take]; omega)
        have HS := Aside.mk hs
        rw [ba_data] at hnd
        obtain ⟨L, hL⟩ : ∃ L, L = nodesL T s now := ⟨_, rfl⟩
        rw [← hL] at hnd
        have HLL := Aside.mk hL
        have HTK := Aside.mk ht
        clear hs hL ht
        by_cases hth : L = []
        · have hlz : (L.length : Int) = 0 := by rw [hth]; rfl
          have e : ((sl.take (j + 1)).filter (there T now)).map ba = ((sl.take j).filter (there T now)).map ba := by
            have : there T now s = false := by unfold there; rw [← HLL.out, hth]; rfl
            rw [HTK.out, List.filter_append]; simp [this]
          have HE := Aside.mk e
          have hl0 : ¬ (0 : Int) < (L.length : Int) := by omega
          clear e hth hlz
          go_wp2_with (go_at_call 20; refine (hnd _ hB).mono ?_; rintro e w2 ⟨v2, rfl, hR2, hb2⟩; obtain ⟨A2, c2', rfl, _, _⟩ := Kd.R_reads hR2)
          refine ⟨⟨j + 1, by omega, rfl, by rw [HE.out]; exact Kd.R_below hR hb2, hB.trans (hb2.mono hB.size), ⟨(hb2.block g hG.out.2).trans hG.out.1, Nat.lt_of_lt_of_le hG.out.2 hb2.size⟩⟩, by show sl.length - ((j + 1 : Nat) : Int).toNat < sl.length - (j : Int).toNat; omega⟩
        · have hlp : (0 : Int) < (L.length : Int) := by have := List.length_pos_iff.mpr hth; omega
          have e : ((sl.take (j + 1)).filter (there T now)).map ba = ((sl.take j).filter (there T now)).map ba ++ [ba s] := by
            have : there T now s = true := by rw [there_iff, ← HLL.out]; exact hth
            rw [HTK.out, List.filter_append]; simp [this]
          have HE := Aside.mk e
          clear e hth
          obtain ⟨fl, hflv⟩ : ∃ fl, fl = ((sl.take j).filter (there T now)).map ba := ⟨_, rfl⟩
          rw [← hflv] at hR hfl
          have HF := Aside.mk hflv
          clear hflv
          go_wp2_with (first
            | (go_at_call 20; refine (hnd _ hB).mono ?_; rintro e w2 ⟨v2, rfl, hR2, hb2⟩; obtain ⟨A2, c2', rfl, _, _⟩ := Kd.R_reads hR2; have hR3 := Kd.R_below hR hb2; have hB3 := hB.trans (hb2.mono hB.size))
            | ((with_reducible refine gate_builtin (b := .append) (xs := #[.tmp 27, .tmp 29]) rfl ?_); at_builtin; refine Kd.R_append Kd.string (w0 := w) w.heap.size rfl (.tmp 27) (.tmp 29) 64 9 (.string ⟨#[]⟩) 16 rfl Tryz.underlying64 info9 rfl (by decide) (by omega) _ fl (ba s) [.string (ba s)] (fun k => k ≠ g) (fun _ => False) rfl rfl ?aP (fun _ hk => hk.elim) ?aF ?aO ?aB ?aS ?aL ?_; (case aP => exact rfl); (case aB => exact hB3); (case aF => exact (fun k hk => by have := Nat.lt_of_lt_of_le hG.out.2 hb2.size; omega)); (case aO => exact hR3); (case aS => exact hB3.size); (case aL => omega); intro v1 w6 hR6 hB6 hg6 _))
          refine ⟨⟨j + 1, by omega, rfl, by rw [HE.out, ← HF.out]; exact hR6, hB6, ?_⟩, by show sl.length - ((j + 1 : Nat) : Int).toNat < sl.length - (j : Int).toNat; omega⟩
          have hne : some g ≠ Value.ownBlock _ := fun he => hR3.1 g he.symm rfl
          have hg2 := Nat.lt_of_lt_of_le hG.out.2 hb2.size
          exact ⟨(hg6.block g hg2 hne).trans ((hb2.block g hG.out.2).trans hG.out.1), Nat.lt_of_lt_of_le hg2 hg6.size⟩
      · obtain rfl : j = sl.length := by omega
        rw [List.take_length] at hR
        have gl : ¬ (sl.length : Int) < (sl.length : Int) := by omega
        go_wp2_with fail
        go_ret
        exact ⟨_, rfl, Kd.R_mono hR (fun _ _ => trivial), hB⟩
set_option maxRecDepth 100000 in
theorem len_calls {lo t bm n : Nat} {room : Int} {D : DataW Unit} {T : List UInt8 → Nat → Option Nt} (now : Int) (w : World) (h : Tab w lo t bm n room D T) (hn : n ≤ 100000) :
    Calls Tryz.prog 25 #[.pointer (some ⟨t, 0, none⟩), .int .i64 now] w fun e w' => e = .returned (.int .i64 ((namesL T now D).length : Nat)) ∧ Below w.heap.size w w' := by
  have hN := names now w h hn
  clear h
  go_enter Tryz.func25, Tryz.ntmps25
  go_wp2_with (go_at_call 23; refine hN.mono ?_; rintro e w1 ⟨v, rfl, hR, hb⟩; obtain ⟨A2, c2, rfl, _, _⟩ := Kd.R_reads hR)
  go_ret
  exact ⟨rfl, hb⟩
end Go.Proofs.YtmimnlbkllgfpaaGreatDoor.Tb
