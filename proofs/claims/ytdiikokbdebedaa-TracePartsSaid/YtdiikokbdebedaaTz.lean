/- trace.Pack's answer in plain words; the page's example of trace comes out as the page says. -/
import Derived.Test.YtdiikokbdebedaaPx0
import Derived.Test.YtdiikokbdebedaaPx4
import Derived.Test.YtdiikokbdebedaaTw
namespace Go.Proofs.Ytdiikokbdebedaa.Tr
open Go.RowKit Go.Proofs.Ytdiikokbdebedaa.P Go.Proofs.Ytdiikokbdebedaa.Ck Go.Proofs.Ytdiikokbdebedaa.Pk Go.Proofs.Ytdiikokbdebedaa.Hand Go.Proofs.YtdiikokbdebedaaW.PrintWords Go.Proofs.YtdiikokbdebedaaW.PrintLast Go.Proofs.YtdiikokbdebedaaW.PrintMore

theorem awake_eq (k : Nat) : mosaiclaw32_awake.f (k + 8) = some true := by
  induction k with
  | zero => decide +kernel
  | succ k ih => exact mosaiclaw32_awake.mono (k + 8) _ ih
theorem awake_ge (k : Nat) (h : 8 ≤ k) : mosaiclaw32_awake.f k = some true := by
  obtain ⟨k, rfl⟩ : ∃ k', k = k' + 8 := ⟨k - 8, by omega⟩
  exact awake_eq k

theorem evBytes_len (x : Ev) (h : evB x = true) : (evBytes x).length ≤ 405 := by
  have hf := evB_facts x h
  unfold evBytes
  have hl := lenB x.2.2
  split
  · simp only [List.length_append, hl, be1, be2, List.length_cons, List.length_nil]; omega
  · simp [be1, be2]
theorem flat_len (l : List Ev) (h : ∀ x ∈ l, evB x = true) : (l.flatMap evBytes).length ≤ 405 * l.length := by
  induction l with
  | nil => simp
  | cons x l ih =>
    have h1 := evBytes_len x (h x (List.mem_cons_self ..))
    have h2 := ih fun y hy => h y (List.mem_cons_of_mem _ hy)
    rw [List.flatMap_cons, List.length_append, List.length_cons]; omega
theorem pack_bad (l : List S47) (h : checkB (l.map toEv) = false) (hl : l.length ≤ 100000) : trace_Pack.f l = some (⟨#[]⟩, 1) := by
  unfold trace_Pack.f; rw [h, if_neg (by simp), if_pos hl]
theorem pack_ok (l : List S47) (h : checkB (l.map toEv) = true) (hl : l.length ≤ 100) : trace_Pack.f l = some (⟨(packL (l.map toEv)).toArray⟩, 0) := by
  have hc := check_len l h
  unfold trace_Pack.f; rw [if_pos h, if_pos]
  have := flat_len (l.map toEv) (fun x hx => by
    obtain ⟨y, hy, rfl⟩ := List.mem_map.mp hx
    exact hc.2 y hy)
  rw [List.length_map] at this
  unfold packL
  simp only [List.length_append, be2, List.length_cons, List.length_nil]; omega
theorem pack_is (l : List S47) (s : ByteArray) (h : Is s l) (hs : s.size ≤ 65536) : trace_Pack.f l = some (s, 0) := by
  have e : (⟨(packL (l.map toEv)).toArray⟩ : ByteArray) = s := by apply ByteArray.ext; rw [← h.2]
  have hl := lenB s
  unfold trace_Pack.f; rw [if_pos h.1, if_pos (by rw [← h.2, hl]; exact hs), e]

end Go.Proofs.Ytdiikokbdebedaa.Tr
