/- slices.Clone of events: nil stays nil, other ones are laid anew. -/
import Derived.Test.YtdiikokbdebedaaPx0
import Derived.WalkKit
import Derived.BigCall
import Derived.LoopTactic
import Derived.Below
import Derived.Lib.LazyBuf
namespace Go.Proofs.Ytdiikokbdebedaa.Hand
open Go.RowKit Go.Proofs.Ytdiikokbdebedaa.P Go.Proofs.YtdiikokbdebedaaW.PrintWords

set_option maxHeartbeats 1000000 in
set_option maxRecDepth 100000 in
theorem clone (A0 : Option Addr) (c0 : Nat) (l0 : List S47) (w : World) (hr0 : Kd.C k47 w A0 l0.length l0) (hl : l0.length ≤ 1000) :
    Calls Try.prog 40 #[.slice A0 l0.length c0] w fun e w' => ∃ v0_ : Value, e = .returned v0_ ∧ Kd.R k47 47 w' w.heap.size (fun _ => True) v0_ l0 ∧ Below w.heap.size w w' := by
  have hE := fun (w : World) (A : Option Addr) (n c : Nat) => Go.run_eql_slice_nil (P := Try.prog) w 22 47 A n c Try.underlying22
  cases A0 with
  | none =>
    have hz : l0 = [] := by
      cases l0 with
      | nil => rfl
      | cons x l => obtain ⟨ad, h, _⟩ := at_T47 hr0 0 (by omega) (by simp); cases h
    subst hz
    go_enter Try.func40, Try.ntmps40
    go_wp2
    go_ret
    exact ⟨_, rfl, Kd.R_nil _ _ _ _ _, Below.refl _ w⟩
  | some ad =>
    go_enter Try.func40, Try.ntmps40
    have hO : Kd.R k47 47 (w.alloc (Obj.cells #[] 47)) w.heap.size (fun _ => True) (.slice (some ⟨w.heap.size, 0, none⟩) 0 0) [] := by
      refine ⟨fun _ _ => trivial, [], ?_, ?_⟩
      · have h2 := World.ownsRow_lit (base := w.heap.size) (e := 47) (size := k47.sz) w #[] 0 (Nat.le_refl _) (by simp [maxLen]) (by rfl)
        simpa using h2
      · exact ⟨rfl, by simp⟩
    have hC : Kd.C k47 (w.alloc (Obj.cells #[] 47)) (some ad) l0.length l0 := Kd.C_below hr0 (below_alloc (Below.refl _ w) _)
    have hB := below_alloc (Below.refl w.heap.size w) (Obj.cells #[] 47)
    have hS := hB.size
    have hL : l0.length * 32 ≤ 32000 := by omega
    go_wp2_with ((with_reducible refine gate_builtin (b := .append) (xs := #[.tmp 5, .tmp 6]) rfl ?_); at_builtin; refine Kd.R_append_rows k47 (w0 := w) w.heap.size rfl (.tmp 5) (.tmp 6) 22 47 (.agg #[(.int .i64 0), (.int .i64 0), (.string ⟨#[]⟩)]) 32 rfl Try.underlying22 info47 rfl (by decide) (by omega) (.slice (some ⟨w.heap.size, 0, none⟩) 0 0) [] l0 (some ad) l0.length c0 (fun _ => True) (fun _ => False) rfl rfl hO hC (fun _ _ h => h) (fun _ h => h.elim) (fun _ _ => trivial) hB hS (by simp only [List.length_nil]; omega) ?_; intro v1 w1 ho hb _ _)
    go_ret
    exact ⟨_, rfl, ho, hb⟩

end Go.Proofs.Ytdiikokbdebedaa.Hand
