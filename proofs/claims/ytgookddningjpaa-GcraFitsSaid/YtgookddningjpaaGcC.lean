/-
  Contracts of package gcra: isTime, valid, New, early, count, check, Take, Allows.
-/
import Derived.Test.YtgookddningjpaaLst
set_option linter.unusedVariables false
set_option linter.unusedSimpArgs false
namespace Go.Proofs.Ytgookddningjpaa
open Go.RowKit

/-! ### what the functions compute -/
def MaxS : Int := 68719476736
def MaxT : Int := 253402300799
def isT (t : Int) : Prop := 0 ≤ t ∧ t ≤ 253402300799
def validL (T Tau : Int) : Prop := (0 ≤ T ∧ T ≤ 68719476736) ∧ (0 ≤ Tau ∧ Tau ≤ 68719476736) ∧ (0 < T ∨ Tau = 0)
instance (t : Int) : Decidable (isT t) := by unfold isT; exact inferInstance
instance (T Tau : Int) : Decidable (validL T Tau) := by unfold validL; exact inferInstance
def earlyB (som : Bool) (tat T Tau now : Int) : Bool := decide (0 < T) && som && decide (now < tat - Tau)
def checkE (som : Bool) (tat last T Tau now : Int) : Int :=
  if ¬ isT now then 14 else if som = true ∧ now < last then 8 else if earlyB som tat T Tau now = true then 9 else 0
def nextI (som : Bool) (tat last T Tau now : Int) : Int :=
  if som = false then now else if earlyB som tat T Tau (max now last) = true then tat - Tau else max now last
/-- the numbers of a limiter are in their bounds -/
def Okl (tat last T Tau : Int) : Prop := (0 ≤ T ∧ T ≤ 68719476736) ∧ (0 ≤ Tau ∧ Tau ≤ 68719476736) ∧ (0 ≤ tat ∧ tat ≤ 390841254271) ∧ (0 ≤ last ∧ last ≤ 253402300799)
/-- a limiter at block k -/
def Lim (w : World) (k : Nat) (som : Bool) (tat last T Tau : Int) : Prop := Blk w k 60 #[.bool som, .int .i64 tat, .int .i64 last, .int .i64 T, .int .i64 Tau, .bool true]

set_option maxHeartbeats 400000 in
theorem isTime_yes (t : Int) (h : isT t) (w : World) :
    Calls Try.prog 39 #[.int .i64 t] w fun e w' => e = .returned (.bool true) ∧ w = w' := by
  obtain ⟨h0, h1⟩ := h
  go_enter Try.func39, Try.ntmps39
  go_wp2
  go_ret
  exact ⟨rfl, rfl⟩
set_option maxHeartbeats 400000 in
theorem isTime_no (t : Int) (h : ¬ isT t) (w : World) :
    Calls Try.prog 39 #[.int .i64 t] w fun e w' => e = .returned (.bool false) ∧ w = w' := by
  by_cases h0 : 0 ≤ t
  · have h1 : decide (t ≤ 253402300799) = false := by unfold isT at h; simp; omega
    clear h
    go_enter Try.func39, Try.ntmps39
    go_wp2
    go_ret
    exact ⟨rfl, rfl⟩
  · have h1 : t < 0 := by omega
    clear h h0
    go_enter Try.func39, Try.ntmps39
    go_wp2
    go_ret
    exact ⟨rfl, rfl⟩
set_option maxHeartbeats 400000 in
theorem in_yes (t : Int) (h0 : 0 ≤ t) (h1 : t ≤ 68719476736) (w : World) :
    Calls Try.prog 53 #[.int .i64 t] w fun e w' => e = .returned (.bool true) ∧ w = w' := by
  go_enter Try.func53, Try.ntmps53
  go_wp2
  go_ret
  exact ⟨rfl, rfl⟩
set_option maxHeartbeats 400000 in
theorem in_no (t : Int) (h : t < 0 ∨ 68719476736 < t) (w : World) :
    Calls Try.prog 53 #[.int .i64 t] w fun e w' => e = .returned (.bool false) ∧ w = w' := by
  rcases h with h | h
  · go_enter Try.func53, Try.ntmps53
    go_wp2
    go_ret
    exact ⟨rfl, rfl⟩
  · have h0 : 0 ≤ t := by omega
    have h1 : decide (t ≤ 68719476736) = false := by simp; omega
    clear h
    go_enter Try.func53, Try.ntmps53
    go_wp2
    go_ret
    exact ⟨rfl, rfl⟩
set_option maxHeartbeats 800000 in
theorem valid_yes (T Tau : Int) (h : validL T Tau) (w : World) :
    Calls Try.prog 43 #[.agg #[.int .i64 T, .int .i64 Tau]] w fun e w' => e = .returned (.bool true) ∧ G w w' := by
  obtain ⟨⟨t0, t1⟩, ⟨u0, u1⟩, h⟩ := h
  by_cases hp : 0 < T
  · clear h
    go_enter Try.func43, Try.ntmps43
    go_wp2_with fail
    refine (in_yes T t0 t1 _).mono ?_
    rintro e w1 ⟨rfl, rfl⟩
    go_wp2_with fail
    refine (in_yes Tau u0 u1 _).mono ?_
    rintro e w1 ⟨rfl, rfl⟩
    go_wp2_with fail
    go_ret
    exact ⟨rfl, (by repeat (first | exact G.refl _ | refine G.alloc ?_ _ | refine G.drewN ?_ _ | refine G.drew ?_ | refine G.trans ?_ (by assumption)))⟩
  · obtain rfl : Tau = 0 := by omega
    obtain rfl : T = 0 := by omega
    go_enter Try.func43, Try.ntmps43
    go_wp2_with fail
    refine (in_yes 0 t0 t1 _).mono ?_
    rintro e w1 ⟨rfl, rfl⟩
    go_wp2_with fail
    refine (in_yes 0 u0 u1 _).mono ?_
    rintro e w1 ⟨rfl, rfl⟩
    go_wp2_with fail
    go_ret
    exact ⟨rfl, (by repeat (first | exact G.refl _ | refine G.alloc ?_ _ | refine G.drewN ?_ _ | refine G.drew ?_ | refine G.trans ?_ (by assumption)))⟩
set_option maxHeartbeats 800000 in
theorem valid_no (T Tau : Int) (h : ¬ validL T Tau) (w : World) :
    Calls Try.prog 43 #[.agg #[.int .i64 T, .int .i64 Tau]] w fun e w' => e = .returned (.bool false) ∧ G w w' := by
  by_cases hT : 0 ≤ T ∧ T ≤ 68719476736
  · obtain ⟨t0, t1⟩ := hT
    by_cases hU : 0 ≤ Tau ∧ Tau ≤ 68719476736
    · obtain ⟨u0, u1⟩ := hU
      obtain rfl : T = 0 := by unfold validL at h; omega
      have hne : (Tau == 0) = false := by unfold validL at h; simp; omega
      clear h
      go_enter Try.func43, Try.ntmps43
      go_wp2_with fail
      refine (in_yes 0 t0 t1 _).mono ?_
      rintro e w1 ⟨rfl, rfl⟩
      go_wp2_with fail
      refine (in_yes Tau u0 u1 _).mono ?_
      rintro e w1 ⟨rfl, rfl⟩
      go_wp2_with fail
      go_ret
      exact ⟨rfl, (by repeat (first | exact G.refl _ | refine G.alloc ?_ _ | refine G.drewN ?_ _ | refine G.drew ?_ | refine G.trans ?_ (by assumption)))⟩
    · have hU' : Tau < 0 ∨ 68719476736 < Tau := by omega
      clear h hU
      have HU := Lib.hid hU'
      clear hU'
      go_enter Try.func43, Try.ntmps43
      go_wp2_with fail
      refine (in_yes T t0 t1 _).mono ?_
      rintro e w1 ⟨rfl, rfl⟩
      go_wp2_with fail
      refine (in_no Tau HU.out _).mono ?_
      rintro e w1 ⟨rfl, rfl⟩
      go_wp2_with fail
      go_ret
      exact ⟨rfl, (by repeat (first | exact G.refl _ | refine G.alloc ?_ _ | refine G.drewN ?_ _ | refine G.drew ?_ | refine G.trans ?_ (by assumption)))⟩
  · have hT' : T < 0 ∨ 68719476736 < T := by omega
    clear h hT
    have HT := Lib.hid hT'
    clear hT'
    go_enter Try.func43, Try.ntmps43
    go_wp2_with fail
    refine (in_no T HT.out _).mono ?_
    rintro e w1 ⟨rfl, rfl⟩
    go_wp2_with fail
    go_ret
    exact ⟨rfl, (by repeat (first | exact G.refl _ | refine G.alloc ?_ _ | refine G.drewN ?_ _ | refine G.drew ?_ | refine G.trans ?_ (by assumption)))⟩
end Go.Proofs.Ytgookddningjpaa
