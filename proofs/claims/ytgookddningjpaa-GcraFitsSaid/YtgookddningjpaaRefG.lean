/-
  Contracts of package wakemanref23: Valid, New, valid, Limit, Burst; gcra's Limit at nil.
-/
import Derived.Test.YtgookddningjpaaGcS
set_option linter.unusedVariables false
set_option linter.unusedSimpArgs false
namespace Go.Proofs.Ytgookddningjpaa
open Go.RowKit

/-- a limiter of the document at block k -/
def RLim (w : World) (k : Nat) (som : Bool) (tat last T Tau : Int) : Prop := Blk w k 74 #[.bool true, .int .i64 T, .int .i64 Tau, .bool som, .int .i64 tat, .int .i64 last]

set_option maxHeartbeats 1600000 in
theorem rvalid_yes (T Tau : Int) (h : validL T Tau) (w : World) :
    Calls Try.prog 45 #[.agg #[.int .i64 T, .int .i64 Tau]] w fun e w' => e = .returned (.bool true) ∧ G w w' := by
  obtain ⟨⟨t0, t1⟩, ⟨u0, u1⟩, h⟩ := h
  have d0 : decide (T < 0) = false := by simp; omega
  have d1 : decide (68719476736 < T) = false := by simp; omega
  have d2 : decide (Tau < 0) = false := by simp; omega
  have d3 : decide (68719476736 < Tau) = false := by simp; omega
  by_cases hp : 0 < T
  · clear h
    go_enter Try.func45, Try.ntmps45
    go_wp2_with fail
    go_ret
    exact ⟨rfl, (by repeat (first | exact G.refl _ | refine G.alloc ?_ _ | refine G.drewN ?_ _ | refine G.drew ?_ | refine G.trans ?_ (by assumption)))⟩
  · obtain rfl : Tau = 0 := by omega
    obtain rfl : T = 0 := by omega
    clear h d0 d1 d2 d3
    go_enter Try.func45, Try.ntmps45
    go_wp2_with fail
    go_ret
    exact ⟨rfl, (by repeat (first | exact G.refl _ | refine G.alloc ?_ _ | refine G.drewN ?_ _ | refine G.drew ?_ | refine G.trans ?_ (by assumption)))⟩
set_option maxHeartbeats 1600000 in
theorem rvalid_no (T Tau : Int) (h : ¬ validL T Tau) (w : World) :
    Calls Try.prog 45 #[.agg #[.int .i64 T, .int .i64 Tau]] w fun e w' => e = .returned (.bool false) ∧ G w w' := by
  by_cases h0 : T < 0
  · clear h
    go_enter Try.func45, Try.ntmps45
    go_wp2_with fail
    go_ret
    exact ⟨rfl, (by repeat (first | exact G.refl _ | refine G.alloc ?_ _ | refine G.drewN ?_ _ | refine G.drew ?_ | refine G.trans ?_ (by assumption)))⟩
  · have d0 : decide (T < 0) = false := by simp; omega
    by_cases h1 : 68719476736 < T
    · clear h h0
      go_enter Try.func45, Try.ntmps45
      go_wp2_with fail
      go_ret
      exact ⟨rfl, (by repeat (first | exact G.refl _ | refine G.alloc ?_ _ | refine G.drewN ?_ _ | refine G.drew ?_ | refine G.trans ?_ (by assumption)))⟩
    · have d1 : decide (68719476736 < T) = false := by simp; omega
      by_cases h2 : Tau < 0
      · clear h h0 h1
        go_enter Try.func45, Try.ntmps45
        go_wp2_with fail
        go_ret
        exact ⟨rfl, (by repeat (first | exact G.refl _ | refine G.alloc ?_ _ | refine G.drewN ?_ _ | refine G.drew ?_ | refine G.trans ?_ (by assumption)))⟩
      · have d2 : decide (Tau < 0) = false := by simp; omega
        by_cases h3 : 68719476736 < Tau
        · clear h h0 h1 h2
          go_enter Try.func45, Try.ntmps45
          go_wp2_with fail
          go_ret
          exact ⟨rfl, (by repeat (first | exact G.refl _ | refine G.alloc ?_ _ | refine G.drewN ?_ _ | refine G.drew ?_ | refine G.trans ?_ (by assumption)))⟩
        · have hz : T = 0 ∧ Tau ≠ 0 := by unfold validL at h; omega
          obtain ⟨rfl, hz⟩ := hz
          have d3 : decide (68719476736 < Tau) = false := by simp; omega
          have d4 : (Tau == 0) = false := by simpa using hz
          clear h h0 h1 h2 h3 d0 d1
          go_enter Try.func45, Try.ntmps45
          go_wp2_with fail
          go_ret
          exact ⟨rfl, (by repeat (first | exact G.refl _ | refine G.alloc ?_ _ | refine G.drewN ?_ _ | refine G.drew ?_ | refine G.trans ?_ (by assumption)))⟩
set_option maxHeartbeats 800000 in
theorem rnew_yes (T Tau : Int) (h : validL T Tau) (w : World) :
    Calls Try.prog 25 #[.agg #[.int .i64 T, .int .i64 Tau]] w fun e w' => ∃ k, e = .returned (.tuple #[.pointer (some ⟨k, 0, none⟩), .int .i64 0]) ∧ w.heap.size ≤ k ∧ G w w' ∧ RLim w' k false 0 0 T Tau := by
  go_enter Try.func25, Try.ntmps25
  go_wp2_with fail
  refine (rvalid_yes T Tau h _).mono ?_
  rintro e w1 ⟨rfl, g1⟩
  have c0 : w1.cell? ⟨w.heap.size, 0, none⟩ = some (.int .i64 T) := g1.cell (by simp) (by simp)
  have c1 : w1.cell? ⟨w.heap.size, 1, none⟩ = some (.int .i64 Tau) := g1.cell (by simp) (by simp)
  have g0 : G w w1 := (by repeat (first | exact G.refl _ | refine G.alloc ?_ _ | refine G.drewN ?_ _ | refine G.drew ?_ | refine G.trans ?_ (by assumption)))
  go_wp2_with fail
  go_ret2
  exact ⟨_, rfl, g0.size, g0.alloc _, Blk.new _ _ _⟩
set_option maxHeartbeats 800000 in
theorem rnew_no (T Tau : Int) (h : ¬ validL T Tau) (w : World) :
    Calls Try.prog 25 #[.agg #[.int .i64 T, .int .i64 Tau]] w fun e w' => e = .returned (.tuple #[.pointer none, .int .i64 16]) ∧ G w w' := by
  have HH := Lib.hid h
  clear h
  go_enter Try.func25, Try.ntmps25
  go_wp2_with fail
  refine (rvalid_no T Tau HH.out _).mono ?_
  rintro e w1 ⟨rfl, g1⟩
  go_wp2_with fail
  go_ret2
  exact ⟨rfl, (by repeat (first | exact G.refl _ | refine G.alloc ?_ _ | refine G.drewN ?_ _ | refine G.drew ?_ | refine G.trans ?_ (by assumption)))⟩
set_option maxHeartbeats 400000 in
theorem rvalid_at (k : Nat) (som : Bool) (tat last T Tau : Int) (w : World) (hb : RLim w k som tat last T Tau) :
    Calls Try.prog 46 #[.pointer (some ⟨k, 0, none⟩)] w fun e w' => e = .returned (.bool true) ∧ w = w' := by
  have c0 : w.cell? ⟨k, 0, none⟩ = some (.bool true) := hb.cell 0
  go_enter Try.func46, Try.ntmps46
  go_wp2_with fail
  go_ret
  exact ⟨rfl, rfl⟩
set_option maxHeartbeats 400000 in
theorem rvalid_nil (w : World) :
    Calls Try.prog 46 #[.pointer none] w fun e w' => e = .returned (.bool false) ∧ w = w' := by
  go_enter Try.func46, Try.ntmps46
  go_wp2_with fail
  go_ret
  exact ⟨rfl, rfl⟩
set_option maxHeartbeats 400000 in
theorem rlimit_any (k : Nat) (som : Bool) (tat last T Tau : Int) (w : World) (hb : RLim w k som tat last T Tau) :
    Calls Try.prog 27 #[.pointer (some ⟨k, 0, none⟩)] w fun e w' => e = .returned (.agg #[.int .i64 T, .int .i64 Tau]) ∧ G w w' := by
  have hb2 := hb.alloc (.cells #[.int .i64 0, .int .i64 0] 24)
  have c1 : (w.alloc (.cells #[.int .i64 0, .int .i64 0] 24)).cell? ⟨k, 1, none⟩ = some (.int .i64 T) := hb2.cell 1
  have c2 : (w.alloc (.cells #[.int .i64 0, .int .i64 0] 24)).cell? ⟨k, 2, none⟩ = some (.int .i64 Tau) := hb2.cell 2
  go_enter Try.func27, Try.ntmps27
  go_wp2_with fail
  refine (rvalid_at k som tat last T Tau _ hb2).mono ?_
  rintro e w1 ⟨rfl, rfl⟩
  go_wp2_with fail
  refine bodyPost_ret (v := .agg #[.int .i64 T, .int .i64 Tau]) (by simp [results, Try.results27, go_sem]) rfl ⟨rfl, (by repeat (first | exact G.refl _ | refine G.alloc ?_ _ | refine G.drewN ?_ _ | refine G.drew ?_ | refine G.trans ?_ (by assumption)))⟩
set_option maxHeartbeats 400000 in
theorem rlimit_nil (w : World) :
    Calls Try.prog 27 #[.pointer none] w fun e w' => e = .returned (.agg #[.int .i64 0, .int .i64 0]) ∧ G w w' := by
  go_enter Try.func27, Try.ntmps27
  go_wp2_with fail
  refine (rvalid_nil _).mono ?_
  rintro e w1 ⟨rfl, rfl⟩
  go_wp2_with fail
  refine bodyPost_ret (v := .agg #[.int .i64 0, .int .i64 0]) (by simp [results, Try.results27, go_sem]) rfl ⟨rfl, (by repeat (first | exact G.refl _ | refine G.alloc ?_ _ | refine G.drewN ?_ _ | refine G.drew ?_ | refine G.trans ?_ (by assumption)))⟩
set_option maxHeartbeats 400000 in
theorem limit_nil (w : World) :
    Calls Try.prog 26 #[.pointer none] w fun e w' => e = .returned (.agg #[.int .i64 0, .int .i64 0]) ∧ G w w' := by
  go_enter Try.func26, Try.ntmps26
  go_wp2_with fail
  refine bodyPost_ret (v := .agg #[.int .i64 0, .int .i64 0]) (by simp [results, Try.results26, go_sem]) rfl ⟨rfl, (by repeat (first | exact G.refl _ | refine G.alloc ?_ _ | refine G.drewN ?_ _ | refine G.drew ?_ | refine G.trans ?_ (by assumption)))⟩
set_option maxHeartbeats 800000 in
theorem rburst_any (T Tau : Int) (w : World) :
    Calls Try.prog 24 #[.agg #[.int .i64 T, .int .i64 Tau]] w fun e w' => e = .returned (.tuple #[.int .i64 (burstI T Tau), .int .i64 (burstE T Tau)]) ∧ G w w' := by
  by_cases hv : validL T Tau
  · have e1 : burstI T Tau = if T = 0 then 0 else Tau / T + 1 := by unfold burstI; rw [if_neg (by simpa using hv)]
    have e2 : burstE T Tau = if T = 0 then 5 else 0 := by unfold burstE; rw [if_neg (by simpa using hv)]
    rw [e1, e2]
    clear e1 e2
    by_cases h0 : T = 0
    · rw [if_pos h0, if_pos h0]
      have HV := Lib.hid hv
      clear hv
      subst h0
      go_enter Try.func24, Try.ntmps24
      go_wp2_with fail
      refine (rvalid_yes 0 Tau HV.out _).mono ?_
      rintro e w1 ⟨rfl, g1⟩
      have c0 : w1.cell? ⟨w.heap.size, 0, none⟩ = some (.int .i64 0) := g1.cell (by simp) (by simp)
      go_wp2_with fail
      go_ret2
      exact ⟨rfl, (by repeat (first | exact G.refl _ | refine G.alloc ?_ _ | refine G.drewN ?_ _ | refine G.drew ?_ | refine G.trans ?_ (by assumption)))⟩
    · rw [if_neg h0, if_neg h0]
      have hb : (T == 0) = false := by simpa using h0
      have hv2 := hv
      obtain ⟨⟨t0, t1⟩, ⟨u0, u1⟩, -⟩ := hv2
      have hp : 1 ≤ T := by omega
      have hq : 0 ≤ Tau / T := Int.ediv_nonneg u0 t0
      have hq2 : Tau / T ≤ 68719476736 := Int.le_trans (Int.ediv_le_self _ u0) u1
      have HV := Lib.hid hv
      clear hv h0
      go_enter Try.func24, Try.ntmps24
      go_wp2_with fail
      refine (rvalid_yes T Tau HV.out _).mono ?_
      rintro e w1 ⟨rfl, g1⟩
      have c0 : w1.cell? ⟨w.heap.size, 0, none⟩ = some (.int .i64 T) := g1.cell (by simp) (by simp)
      have c1 : w1.cell? ⟨w.heap.size, 1, none⟩ = some (.int .i64 Tau) := g1.cell (by simp) (by simp)
      go_wp2_with fail
      go_ret2
      exact ⟨rfl, (by repeat (first | exact G.refl _ | refine G.alloc ?_ _ | refine G.drewN ?_ _ | refine G.drew ?_ | refine G.trans ?_ (by assumption)))⟩
  · have e1 : burstI T Tau = 0 := by unfold burstI; rw [if_pos hv]
    have e2 : burstE T Tau = 16 := by unfold burstE; rw [if_pos hv]
    rw [e1, e2]
    clear e1 e2
    have HV := Lib.hid hv
    clear hv
    go_enter Try.func24, Try.ntmps24
    go_wp2_with fail
    refine (rvalid_no T Tau HV.out _).mono ?_
    rintro e w1 ⟨rfl, g1⟩
    go_wp2_with fail
    go_ret2
    exact ⟨rfl, (by repeat (first | exact G.refl _ | refine G.alloc ?_ _ | refine G.drewN ?_ _ | refine G.drew ?_ | refine G.trans ?_ (by assumption)))⟩
end Go.Proofs.Ytgookddningjpaa
