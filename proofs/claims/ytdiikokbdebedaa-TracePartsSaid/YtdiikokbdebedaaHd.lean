/- The contracts of the functions that were walked by hand, in the printed texts' form. -/
import Derived.Test.YtdiikokbdebedaaPx0
import Derived.Test.YtdiikokbdebedaaPk
import Derived.Test.YtdiikokbdebedaaGe
import Derived.Test.YtdiikokbdebedaaCl
namespace Go.Proofs.Ytdiikokbdebedaa.Hand
open Go.RowKit Go.Proofs.Ytdiikokbdebedaa.P Go.Proofs.Ytdiikokbdebedaa.Ck Go.Proofs.YtdiikokbdebedaaW.PrintWords

def toEv (x : S47) : Ev := (x.f0, x.f1, x.f2)
theorem evs_of {w : World} {A : Option Addr} {l : List S47} (h : Kd.C k47 w A l.length l) : Evs w A (l.map toEv) := by
  intro i x hx
  rw [List.getElem?_map] at hx
  have hlt : i < l.length := by
    rcases Nat.lt_or_ge i l.length with h' | h'
    · exact h'
    · rw [List.getElem?_eq_none h'] at hx; cases hx
  obtain ⟨ad, e, c0, c1, c2⟩ := at_T47 h (i : Int) (by omega) (by omega)
  have hr : toEv (rd_T47 l (i : Int)) = x := by
    rw [List.getElem?_eq_getElem hlt] at hx
    have hx := Option.some.inj hx
    rw [← hx]
    unfold rd_T47
    rw [Int.toNat_natCast, List.getD_eq_getElem?_getD, List.getElem?_eq_getElem hlt]; rfl
  rw [← hr]
  exact ⟨ad, e, c0, c1, c2⟩

def oct_Get.f (a0 : ByteArray) : Option Int := some (if a0.size ≤ 7 then (Ge.getN 0 a0.data.toList : Int) else 0)
theorem oct_Get.calls (a0 : ByteArray) (r : Int) (w : World) (h : oct_Get.f a0 = some r) :
    Calls Try.prog 46 #[.string a0] w fun e w' => e = .returned (.int .i64 r) ∧ Below w.heap.size w w' := by
  obtain rfl := Option.some.inj h
  exact Ge.get a0 w

def trace_Check.f (l0 : List S47) : Option Bool := if l0.length ≤ 100000 then some (checkB (l0.map toEv)) else none
theorem trace_Check.calls (A0 : Option Addr) (c0 : Nat) (l0 : List (S47)) (r : Bool) (w : World) (hr0 : Kd.C k47 w A0 l0.length l0) (_hc0 : l0.length ≤ c0) (h : trace_Check.f l0 = some r) :
    Calls Try.prog 14 #[.slice A0 l0.length c0] w fun e w' => e = .returned (.bool r) ∧ Below w.heap.size w w' := by
  unfold trace_Check.f at h
  split at h
  · rename_i hl
    obtain rfl := Option.some.inj h
    have := check A0 c0 (l0.map toEv) w (evs_of hr0) (by simpa using hl)
    rwa [List.length_map] at this
  · cases h

def trace_Pack.f (l0 : List S47) : Option (ByteArray × Int) :=
  if checkB (l0.map toEv) = true then (if (Pk.packL (l0.map toEv)).length ≤ 65536 then some (⟨(Pk.packL (l0.map toEv)).toArray⟩, 0) else none)
  else if l0.length ≤ 100000 then some (⟨#[]⟩, 1) else none
theorem trace_Pack.calls (A0 : Option Addr) (c0 : Nat) (l0 : List (S47)) (r1 : ByteArray) (r2 : Int) (w : World) (hr0 : Kd.C k47 w A0 l0.length l0) (_hc0 : l0.length ≤ c0) (h : trace_Pack.f l0 = some (r1, r2)) :
    Calls Try.prog 8 #[.slice A0 l0.length c0] w fun e w' => e = .returned (.tuple #[.string r1, .int .i64 r2]) ∧ Below w.heap.size w w' := by
  have hE := evs_of hr0
  unfold trace_Pack.f at h
  split at h
  · rename_i hc
    split at h
    · rename_i hl
      obtain ⟨rfl, rfl⟩ := Prod.mk.inj (Option.some.inj h)
      have := Pk.pack A0 c0 (l0.map toEv) w hE hc hl
      rwa [List.length_map] at this
    · cases h
  · rename_i hc
    split at h
    · rename_i hl
      obtain ⟨rfl, rfl⟩ := Prod.mk.inj (Option.some.inj h)
      have := Pk.packNo A0 c0 (l0.map toEv) w hE (by simpa using hc) (by simpa using hl)
      rwa [List.length_map] at this
    · cases h

/-- slices.Clone of events. -/
def api_Event_40.f (l0 : List S47) : Option (List S47) := if l0.length ≤ 1000 then some l0 else none
theorem api_Event_40.calls (A0 : Option Addr) (c0 : Nat) (l0 : List (S47)) (r : List S47) (w : World) (hr0 : Kd.C k47 w A0 l0.length l0) (_hc0 : l0.length ≤ c0) (h : api_Event_40.f l0 = some r) :
    Calls Try.prog 40 #[.slice A0 l0.length c0] w fun e w' => ∃ v0_ : Value, e = .returned v0_ ∧ Kd.R k47 47 w' w.heap.size (fun _ => True) v0_ r ∧ Below w.heap.size w w' := by
  unfold api_Event_40.f at h
  split at h
  · rename_i hl
    obtain rfl := Option.some.inj h
    exact clone A0 c0 l0 w hr0 hl
  · cases h

end Go.Proofs.Ytdiikokbdebedaa.Hand
