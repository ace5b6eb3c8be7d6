/- TraceParts, walked: it answers true. -/
import Derived.Test.YtdiikokbdebedaaPx0
import Derived.Test.YtdiikokbdebedaaPx2
import Derived.Test.YtdiikokbdebedaaPx4
import Derived.Test.YtdiikokbdebedaaPx6
import Derived.Test.YtdiikokbdebedaaPp
import Derived.Deep.RegionHeld3
namespace Go.Proofs.Ytdiikokbdebedaa.Wl
open Go.RowKit Go.Proofs.Ytdiikokbdebedaa.P Go.Proofs.Ytdiikokbdebedaa.Tr Go.Proofs.Ytdiikokbdebedaa.Rf Go.Proofs.Ytdiikokbdebedaa.Ck Go.Proofs.Ytdiikokbdebedaa.Ki Go.Proofs.Ytdiikokbdebedaa.Hand Go.Proofs.YtdiikokbdebedaaW.PrintWords Go.Proofs.YtdiikokbdebedaaW.PrintLast Go.Proofs.YtdiikokbdebedaaW.PrintMore

theorem refsC (A : Option Addr) (c : Nat) (l : List S47) (w : World) (h : Kd.C k47 w A l.length l) (hc : l.length ≤ c) (hl : l.length ≤ 1000) :
    Calls Try.prog 10 #[.slice A l.length c] w fun e w' => ∃ A' c', e = .returned (.slice A' l.length c') ∧ l.length ≤ c' ∧ Kd.C k54 w' A' l.length (l.map toR) ∧ Below w.heap.size w w' := by
  refine (mosaiclaw32_refs.calls 2000 A c l (l.map toR) w h hc (refs_eq l hl 2000 (by omega))).mono ?_
  rintro e w' ⟨v, rfl, hR, hB⟩
  obtain ⟨A', c', rfl, hle, hC⟩ := Kd.R_reads hR
  rw [List.length_map] at hle hC
  exact ⟨A', c', by rw [List.length_map], hle, hC, hB⟩
theorem kindC (A : Option Addr) (c : Nat) (l : List S47) (w : World) (h : Kd.C k54 w A l.length (l.map toR)) (hc : l.length ≤ c) (hl : l.length ≤ 1000) (j : Nat) (hj : j ≤ 3) :
    Calls Try.prog 17 #[.slice A l.length c, .int .i64 (j : Int)] w fun e w' => e = .returned (.int .i64 ((cnt j (l.map toEv) : Nat) : Int)) ∧ Below w.heap.size w w' := by
  have := mosaicref32_Kind.calls 2000 A c (l.map toR) (j : Int) _ w (by rw [List.length_map]; exact h) (by rw [List.length_map]; exact hc) (kind_eq l hl j hj 2000 (by omega))
  rw [List.length_map] at this
  refine this.mono ?_
  rintro e w' ⟨rfl, hD⟩
  exact ⟨rfl, hD.below⟩

theorem partC (A : Option Addr) (c : Nat) (l p : List S47) (a b : Int) (w : World) (h : Kd.C k47 w A l.length l) (hc : l.length ≤ c) (hp : trace_Part.f l a b = some p) :
    Calls Try.prog 18 #[.slice A l.length c, .int .i64 a, .int .i64 b] w fun e w' => ∃ A' c', e = .returned (.slice A' p.length c') ∧ p.length ≤ c' ∧ Kd.C k47 w' A' p.length p ∧ Below w.heap.size w w' := by
  refine (trace_Part.calls A c l a b p w h hc hp).mono ?_
  rintro e w' ⟨v, rfl, hR, hB⟩
  obtain ⟨A', c', rfl, hle, hC⟩ := Kd.R_reads hR
  exact ⟨A', c', rfl, hle, hC, hB⟩
theorem refPartC (A : Option Addr) (c : Nat) (l p : List S47) (a b : Int) (w : World) (h : Kd.C k54 w A l.length (l.map toR)) (hc : l.length ≤ c) (hp : mosaicref32_Part.f 2000 (l.map toR) a b = some (p.map toR)) :
    Calls Try.prog 19 #[.slice A l.length c, .int .i64 a, .int .i64 b] w fun e w' => ∃ A' c', e = .returned (.slice A' p.length c') ∧ p.length ≤ c' ∧ Kd.C k54 w' A' p.length (p.map toR) ∧ Below w.heap.size w w' := by
  have := mosaicref32_Part.calls 2000 A c (l.map toR) a b _ w (by rw [List.length_map]; exact h) (by rw [List.length_map]; exact hc) hp
  rw [List.length_map] at this
  refine this.mono ?_
  rintro e w' ⟨v, rfl, hR, hB⟩
  obtain ⟨A', c', rfl, hle, hC⟩ := Kd.R_reads hR
  rw [List.length_map] at hle hC
  exact ⟨A', c', by rw [List.length_map], hle, hC, hB⟩
theorem sameC (A B : Option Addr) (c d : Nat) (p : List S47) (w : World) (hp : p.length ≤ 1000) (h : Kd.C k54 w A p.length (p.map toR)) (hc : p.length ≤ c) (h' : Kd.C k54 w B p.length (p.map toR)) (hd : p.length ≤ d) :
    Calls Try.prog 13 #[.slice A p.length c, .slice B p.length d] w fun e w' => e = .returned (.bool true) ∧ Below w.heap.size w w' := by
  have := mosaicref32_Same.calls 2000 A c (p.map toR) B d (p.map toR) true w (by rw [List.length_map]; exact h) (by rw [List.length_map]; exact hc) (by rw [List.length_map]; exact h') (by rw [List.length_map]; exact hd) (same_eq _ (by rw [List.length_map]; exact hp) 2000 (by omega))
  rw [List.length_map] at this
  refine this.mono ?_
  rintro e w' ⟨rfl, hD⟩
  exact ⟨rfl, hD.below⟩

set_option maxHeartbeats 4000000 in
set_option maxRecDepth 100000 in
theorem few_no (A : Option Addr) (c : Nat) (l : List S47) (a b : Int) (w : World) (h : Kd.C k47 w A l.length l) (hc : l.length ≤ c) (hf : mosaiclaw32_few.f 2000 l 100 = some false) :
    Calls Try.prog 5 #[.slice A l.length c, .int .i64 a, .int .i64 b] w fun e w' => e = .returned (.bool true) ∧ Below w.heap.size w w' := by
  have hF := mosaiclaw32_few.calls 2000 A c l 100 false w h hc hf
  have hW := fun w => mosaiclaw32_awake.calls 2000 true w (awake_ge 2000 (by omega))
  go_enter Try.func5, Try.ntmps5
  go_wp2_with (first | (go_at_call 6; refine hF.mono ?_; rintro e w1 ⟨rfl, hd1⟩; have hb1 := hd1.below) | (go_at_call 7; refine (hW _).mono ?_; rintro e w2 ⟨rfl, hb2⟩))
  go_ret
  exact ⟨rfl, hb1.trans (hb2.mono hb1.size)⟩

set_option maxHeartbeats 4000000 in
set_option maxRecDepth 100000 in
theorem few_yes (A : Option Addr) (c : Nat) (l : List S47) (a b : Int) (w : World) (h : Kd.C k47 w A l.length l) (hc : l.length ≤ c) (hf : mosaiclaw32_few.f 2000 l 100 = some true) (hl : l.length ≤ 100) :
    Calls Try.prog 5 #[.slice A l.length c, .int .i64 a, .int .i64 b] w fun e w' => e = .returned (.bool true) ∧ Below w.heap.size w w' := by
  have hF := mosaiclaw32_few.calls 2000 A c l 100 true w h hc hf
  have hW := fun w => mosaiclaw32_awake.calls 2000 true w (awake_ge 2000 (by omega))
  have hK := fun (w' : World) (hb : Below w.heap.size w w') => kinds A c (l.map toEv) w' (evs_of (Kd.C_below h hb)) (by rw [List.length_map]; omega)
  rw [List.length_map] at hK
  go_enter Try.func5, Try.ntmps5
  go_wp2_with (first | (go_at_call 6; refine hF.mono ?_; rintro e w1 ⟨rfl, hd1⟩; have hb1 := hd1.below) | (go_at_call 16; refine (hK _ hb1).mono ?_; rintro e w2 ⟨rfl, hb2⟩))
  have hbA : Below w.heap.size w w2 := hb1.trans (hb2.mono hb1.size)
  have hnew := blk_new w2 (Obj.cells #[.int .i64 (cnt 0 (l.map toEv) : Nat), .int .i64 (cnt 1 (l.map toEv) : Nat), .int .i64 (cnt 2 (l.map toEv) : Nat), .int .i64 (cnt 3 (l.map toEv) : Nat)] 40)
  have hBA := hbA.alloc hbA.size (Obj.cells #[.int .i64 (cnt 0 (l.map toEv) : Nat), .int .i64 (cnt 1 (l.map toEv) : Nat), .int .i64 (cnt 2 (l.map toEv) : Nat), .int .i64 (cnt 3 (l.map toEv) : Nat)] 40)
  have hgw : w.heap.size ≤ w2.heap.size := hbA.size
  have hKi := fun (j : Nat) (hj : j ≤ 3) (A' : Option Addr) (c' : Nat) (w' : World) (h' : Kd.C k54 w' A' l.length (l.map toR)) (hc' : l.length ≤ c') => kindC A' c' l w' h' hc' (by omega) j hj
  have hR := fun (w' : World) (hb : Below w.heap.size w w') => refsC A c l w' (Kd.C_below h hb) hc (by omega)
  obtain ⟨p, hpl, hp1, hp2⟩ := part_eq l (by omega) a b 2000 (by omega)
  generalize w2.alloc (Obj.cells #[.int .i64 (cnt 0 (l.map toEv) : Nat), .int .i64 (cnt 1 (l.map toEv) : Nat), .int .i64 (cnt 2 (l.map toEv) : Nat), .int .i64 (cnt 3 (l.map toEv) : Nat)] 40) = w3 at *
  go_loopw [8] (fun iv wr => ∃ i : Nat, i ≤ 4 ∧ iv = .int .i64 i ∧ wr.heap[w2.heap.size]? = some (.cells #[.int .i64 (cnt 0 (l.map toEv) : Nat), .int .i64 (cnt 1 (l.map toEv) : Nat), .int .i64 (cnt 2 (l.map toEv) : Nat), .int .i64 (cnt 3 (l.map toEv) : Nat)] 40 (0, 0)) ∧ Below w.heap.size w wr) (fun iv _ => 4 - (Ck.intOf iv).toNat)
  case atStart => exact ⟨0, by omega, rfl, hnew, hBA⟩
  case round =>
    clear hF hK hb1 hb2 hd1 hbA hnew hBA
    obtain ⟨i, hi, rfl, hblk, hB⟩ := hrel
    by_cases hlt : i < 4
    · obtain ⟨n, hcell, hKn⟩ : ∃ n : Nat, wr.cell? ⟨w2.heap.size, i, none⟩ = some (.int .i64 (n : Int)) ∧ ∀ (A' : Option Addr) (c' : Nat) (w' : World) (h' : Kd.C k54 w' A' l.length (l.map toR)) (hc' : l.length ≤ c'), Calls Try.prog 17 #[.slice A' l.length c', .int .i64 (i : Int)] w' fun e w'' => e = .returned (.int .i64 (n : Int)) ∧ Below w'.heap.size w' w'' := by
        have hi4 : i = 0 ∨ i = 1 ∨ i = 2 ∨ i = 3 := by omega
        rcases hi4 with rfl | rfl | rfl | rfl
        · exact ⟨_, blk_cell hblk 0, hKi 0 (by omega)⟩
        · exact ⟨_, blk_cell hblk 1, hKi 1 (by omega)⟩
        · exact ⟨_, blk_cell hblk 2, hKi 2 (by omega)⟩
        · exact ⟨_, blk_cell hblk 3, hKi 3 (by omega)⟩
      have hlb := blk_lt hblk
      have Hb := Aside.mk hblk
      clear hblk hKi
      go_wp2_with fail
      go_region_held3 (fun w' => w'.cell? ⟨w2.heap.size, i, none⟩ = some (.int .i64 (n : Int))) (first | exact hcell5 | exact hcell4 | exact hcell) (first | (go_at_call 10; refine (hR _ (by repeat (first | exact hB | apply pw_below_drewN | apply below_drew1))).mono ?_; rintro e w4 ⟨A', c', rfl, hle, hC4, hb4⟩; have hcell4 := (hb4.cell (p := ⟨w2.heap.size, i, none⟩) (by exact hlb)).trans hcell) | (go_at_call 17; refine (hKn _ _ _ (by repeat (first | exact hC4 | apply Kd.C_drewN | apply Kd.C_drew)) hle).mono ?_; rintro e w5 ⟨rfl, hb5⟩; have hcell5 := (hb5.cell (p := ⟨w2.heap.size, i, none⟩) (by exact Nat.lt_of_lt_of_le hlb hb4.size)).trans hcell4))
      · have hB5 : Below w.heap.size w w5 := (below_drew1 hB).trans ((hb4.mono hB.size).trans (hb5.mono (Nat.le_trans hB.size hb4.size)))
        have hblk5 := (hb5.block w2.heap.size (Nat.lt_of_lt_of_le hlb hb4.size)).trans ((hb4.block w2.heap.size hlb).trans Hb.out)
        go_wp2
        exact ⟨⟨i + 1, by omega, by rw [Int.natCast_add]; rfl, hblk5, hB5⟩, by show 4 - ((i : Int) + 1).toNat < 4 - (i : Int).toNat; omega⟩
    · have hi4 : i = 4 := by omega
      subst hi4
      clear hblk hKi
      have hP := fun (w' : World) (hb : Below w.heap.size w w') => partC A c l p a b w' (Kd.C_below h hb) hc hp1
      have step : ∀ {w1 w2 : World}, Below w.heap.size w w1 → Below w1.heap.size w1 w2 → Below w.heap.size w w2 := fun h1 h2 => h1.trans (h2.mono h1.size)
      go_wp2_with (first
        | (go_at_call 7; refine (hW _).mono ?_; rintro e w4 ⟨rfl, hb4⟩; have hB4 := step hB hb4)
        | (go_at_call 18; refine (hP _ hB4).mono ?_; rintro e w5 ⟨A5, c5, rfl, hl5, hC5, hb5⟩; have hB5 := step hB4 hb5)
        | (go_at_call 13; refine (sameC A6 A8 c6 c8 p _ hpl (Kd.C_below (Kd.C_below hC6 hb7) hb8) hl6 hC8 hl8).mono ?_; rintro e w9 ⟨rfl, hb9⟩; have hB9 := step hB8 hb9)
        | (go_at_call 19; refine (refPartC A7 c7 l p a b _ hC7 hl7 hp2).mono ?_; rintro e w8 ⟨A8, c8, rfl, hl8, hC8, hb8⟩; have hB8 := step hB7 hb8)
        | (go_at_call 10; refine (hR _ hB6).mono ?_; rintro e w7 ⟨A7, c7, rfl, hl7, hC7, hb7⟩; have hB7 := step hB6 hb7)
        | (go_at_call 10; refine (refsC A5 c5 p _ hC5 hl5 hpl).mono ?_; rintro e w6 ⟨A6, c6, rfl, hl6, hC6, hb6⟩; have hB6 := step hB5 hb6))
      go_ret
      exact ⟨rfl, hB9⟩

theorem parts (A : Option Addr) (c : Nat) (l : List S47) (a b : Int) (w : World) (h : Kd.C k47 w A l.length l) (hc : l.length ≤ c) :
    Calls Try.prog 5 #[.slice A l.length c, .int .i64 a, .int .i64 b] w fun e w' => e = .returned (.bool true) ∧ Below w.heap.size w w' := by
  obtain ⟨r, hr, hf⟩ := few_eq l 2000 (by omega)
  cases r with
  | true => exact few_yes A c l a b w h hc hr (hf rfl)
  | false => exact few_no A c l a b w h hc hr

end Go.Proofs.Ytdiikokbdebedaa.Wl
