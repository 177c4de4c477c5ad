/-
  Contracts of package gcra, further ones: Next, Tat, Limit, Copy, Restore, Burst.
-/
import Derived.Test.YtgookddningjpaaGcD
set_option linter.unusedVariables false
set_option linter.unusedSimpArgs false
namespace Go.Proofs.Ytgookddningjpaa
open Go.RowKit

set_option maxHeartbeats 1600000 in
theorem next_no (k : Nat) (som : Bool) (tat last T Tau now : Int) (hn : ¬ isT now) (w : World) (hb : Lim w k som tat last T Tau) :
    Calls Try.prog 28 #[.pointer (some ⟨k, 0, none⟩), .int .i64 now] w fun e w' => e = .returned (.tuple #[.int .i64 0, .int .i64 14]) ∧ G w w' := by
  have c5 : w.cell? ⟨k, 5, none⟩ = some (.bool true) := hb.cell 5
  have HN := Lib.hid hn
  clear hn
  go_enter Try.func28, Try.ntmps28
  go_wp2_with fail
  refine (isTime_no now HN.out _).mono ?_
  rintro e w1 ⟨rfl, rfl⟩
  go_wp2_with fail
  go_ret2
  exact ⟨rfl, (by repeat (first | exact G.refl _ | refine G.alloc ?_ _ | refine G.drewN ?_ _ | refine G.drew ?_ | refine G.trans ?_ (by assumption)))⟩
set_option maxHeartbeats 1600000 in
theorem next_any (k : Nat) (som : Bool) (tat last T Tau now : Int) (ho : Okl tat last T Tau) (hn : isT now) (w : World) (hb : Lim w k som tat last T Tau) :
    Calls Try.prog 28 #[.pointer (some ⟨k, 0, none⟩), .int .i64 now] w fun e w' => e = .returned (.tuple #[.int .i64 (nextI som tat last T Tau now), .int .i64 0]) ∧ G w w' := by
  have c0 : w.cell? ⟨k, 0, none⟩ = some (.bool som) := hb.cell 0
  have c2 : w.cell? ⟨k, 2, none⟩ = some (.int .i64 last) := hb.cell 2
  have c5 : w.cell? ⟨k, 5, none⟩ = some (.bool true) := hb.cell 5
  have HN := Lib.hid hn
  have HO := Lib.hid ho
  clear hn ho
  cases som
  · go_enter Try.func28, Try.ntmps28
    go_wp2_with fail
    refine (isTime_yes now HN.out _).mono ?_
    rintro e w1 ⟨rfl, rfl⟩
    go_wp2_with fail
    go_ret2
    exact ⟨rfl, (by repeat (first | exact G.refl _ | refine G.alloc ?_ _ | refine G.drewN ?_ _ | refine G.drew ?_ | refine G.trans ?_ (by assumption)))⟩
  · obtain ⟨m, hm⟩ : ∃ m, max now last = m := ⟨_, rfl⟩
    have hmc : (now < last ∧ m = last) ∨ (last ≤ now ∧ m = now) := by omega
    have hnx : nextI true tat last T Tau now = if earlyB true tat T Tau m = true then tat - Tau else m := by rw [← hm]; rfl
    rw [hnx]
    clear hm hnx
    by_cases hc : now < last
    · obtain rfl : m = last := by omega
      clear hmc
      by_cases he : earlyB true tat T Tau m = true
      · rw [if_pos he]
        have he2 : earlyB true tat T Tau m = true := by simpa using he
        have HEE := Lib.hid he2
        clear he he2
        go_enter Try.func28, Try.ntmps28
        go_wp2_with fail
        refine (isTime_yes now HN.out _).mono ?_
        rintro e w1 ⟨rfl, rfl⟩
        go_wp2_with fail
        refine (early_any k true tat m T Tau m HO.out _ hb).mono ?_
        rintro e w2 ⟨rfl, g2⟩
        rw [HEE.out]
        have hb2 := hb.g g2
        have d1 : w2.cell? ⟨k, 1, none⟩ = some (.int .i64 tat) := hb2.cell 1
        have d4 : w2.cell? ⟨k, 4, none⟩ = some (.int .i64 Tau) := hb2.cell 4
        obtain ⟨⟨t0, t1⟩, ⟨u0, u1⟩, ⟨a0, a1⟩, -⟩ := HO.out
        go_wp2_with fail
        go_quiet (fail)
        go_wp2_with fail
        go_ret2
        exact ⟨rfl, (by repeat (first | exact G.refl _ | refine G.alloc ?_ _ | refine G.drewN ?_ _ | refine G.drew ?_ | refine G.trans ?_ (by assumption)))⟩
      · rw [if_neg he]
        have he2 : earlyB true tat T Tau m = false := by simpa using he
        have HEE := Lib.hid he2
        clear he he2
        go_enter Try.func28, Try.ntmps28
        go_wp2_with fail
        refine (isTime_yes now HN.out _).mono ?_
        rintro e w1 ⟨rfl, rfl⟩
        go_wp2_with fail
        refine (early_any k true tat m T Tau m HO.out _ hb).mono ?_
        rintro e w2 ⟨rfl, g2⟩
        rw [HEE.out]
        go_wp2_with fail
        go_ret2
        exact ⟨rfl, (by repeat (first | exact G.refl _ | refine G.alloc ?_ _ | refine G.drewN ?_ _ | refine G.drew ?_ | refine G.trans ?_ (by assumption)))⟩
    · obtain rfl : m = now := by omega
      have hc' : last ≤ m := by omega
      clear hmc hc
      by_cases he : earlyB true tat T Tau m = true
      · rw [if_pos he]
        have he2 : earlyB true tat T Tau m = true := by simpa using he
        have HEE := Lib.hid he2
        clear he he2
        go_enter Try.func28, Try.ntmps28
        go_wp2_with fail
        refine (isTime_yes m HN.out _).mono ?_
        rintro e w1 ⟨rfl, rfl⟩
        go_wp2_with fail
        refine (early_any k true tat last T Tau m HO.out _ hb).mono ?_
        rintro e w2 ⟨rfl, g2⟩
        rw [HEE.out]
        have hb2 := hb.g g2
        have d1 : w2.cell? ⟨k, 1, none⟩ = some (.int .i64 tat) := hb2.cell 1
        have d4 : w2.cell? ⟨k, 4, none⟩ = some (.int .i64 Tau) := hb2.cell 4
        obtain ⟨⟨t0, t1⟩, ⟨u0, u1⟩, ⟨a0, a1⟩, -⟩ := HO.out
        go_wp2_with fail
        go_quiet (fail)
        go_wp2_with fail
        go_ret2
        exact ⟨rfl, (by repeat (first | exact G.refl _ | refine G.alloc ?_ _ | refine G.drewN ?_ _ | refine G.drew ?_ | refine G.trans ?_ (by assumption)))⟩
      · rw [if_neg he]
        have he2 : earlyB true tat T Tau m = false := by simpa using he
        have HEE := Lib.hid he2
        clear he he2
        go_enter Try.func28, Try.ntmps28
        go_wp2_with fail
        refine (isTime_yes m HN.out _).mono ?_
        rintro e w1 ⟨rfl, rfl⟩
        go_wp2_with fail
        refine (early_any k true tat last T Tau m HO.out _ hb).mono ?_
        rintro e w2 ⟨rfl, g2⟩
        rw [HEE.out]
        go_wp2_with fail
        go_ret2
        exact ⟨rfl, (by repeat (first | exact G.refl _ | refine G.alloc ?_ _ | refine G.drewN ?_ _ | refine G.drew ?_ | refine G.trans ?_ (by assumption)))⟩

set_option maxHeartbeats 400000 in
theorem arrival_any (k : Nat) (som : Bool) (tat last T Tau : Int) (w : World) (hb : Lim w k som tat last T Tau) :
    Calls Try.prog 47 #[.pointer (some ⟨k, 0, none⟩)] w fun e w' => e = .returned (.tuple #[.int .i64 tat, .bool som]) ∧ G w w' := by
  have c0 : w.cell? ⟨k, 0, none⟩ = some (.bool som) := hb.cell 0
  have c1 : w.cell? ⟨k, 1, none⟩ = some (.int .i64 tat) := hb.cell 1
  go_enter Try.func47, Try.ntmps47
  go_wp2_with fail
  go_quiet (fail)
  go_wp2_with fail
  go_ret2
  exact ⟨rfl, (by repeat (first | exact G.refl _ | refine G.alloc ?_ _ | refine G.drewN ?_ _ | refine G.drew ?_ | refine G.trans ?_ (by assumption)))⟩
set_option maxHeartbeats 400000 in
theorem tat_any (k : Nat) (som : Bool) (tat last T Tau : Int) (w : World) (hb : Lim w k som tat last T Tau) :
    Calls Try.prog 29 #[.pointer (some ⟨k, 0, none⟩)] w fun e w' => e = .returned (.tuple #[.int .i64 tat, .bool som]) ∧ G w w' := by
  go_enter Try.func29, Try.ntmps29
  go_wp2_with fail
  refine (arrival_any k som tat last T Tau _ hb).mono ?_
  rintro e w1 ⟨rfl, g1⟩
  go_wp2_with fail
  go_ret2
  exact ⟨rfl, g1⟩
set_option maxHeartbeats 400000 in
theorem limit_any (k : Nat) (som : Bool) (tat last T Tau : Int) (w : World) (hb : Lim w k som tat last T Tau) :
    Calls Try.prog 26 #[.pointer (some ⟨k, 0, none⟩)] w fun e w' => e = .returned (.agg #[.int .i64 T, .int .i64 Tau]) ∧ G w w' := by
  have hb2 := hb.alloc (.cells #[.int .i64 0, .int .i64 0] 24)
  have c3 : (w.alloc (.cells #[.int .i64 0, .int .i64 0] 24)).cell? ⟨k, 3, none⟩ = some (.int .i64 T) := hb2.cell 3
  have c4 : (w.alloc (.cells #[.int .i64 0, .int .i64 0] 24)).cell? ⟨k, 4, none⟩ = some (.int .i64 Tau) := hb2.cell 4
  go_enter Try.func26, Try.ntmps26
  go_wp2_with fail
  refine bodyPost_ret (v := .agg #[.int .i64 T, .int .i64 Tau]) (by simp [results, Try.results26, go_sem]) rfl ⟨rfl, (by repeat (first | exact G.refl _ | refine G.alloc ?_ _ | refine G.drewN ?_ _ | refine G.drew ?_ | refine G.trans ?_ (by assumption)))⟩
set_option maxHeartbeats 400000 in
theorem copy_any (k : Nat) (som : Bool) (tat last T Tau : Int) (w : World) (hb : Lim w k som tat last T Tau) :
    Calls Try.prog 30 #[.pointer (some ⟨k, 0, none⟩)] w fun e w' => e = .returned (.pointer (some ⟨w.heap.size, 0, none⟩)) ∧ w' = w.alloc (.cells #[.bool som, .int .i64 tat, .int .i64 last, .int .i64 T, .int .i64 Tau, .bool true] 60) := by
  have c0 : w.cell? ⟨k, 0, none⟩ = some (.bool som) := hb.cell 0
  have c1 : w.cell? ⟨k, 1, none⟩ = some (.int .i64 tat) := hb.cell 1
  have c2 : w.cell? ⟨k, 2, none⟩ = some (.int .i64 last) := hb.cell 2
  have c3 : w.cell? ⟨k, 3, none⟩ = some (.int .i64 T) := hb.cell 3
  have c4 : w.cell? ⟨k, 4, none⟩ = some (.int .i64 Tau) := hb.cell 4
  have c5 : w.cell? ⟨k, 5, none⟩ = some (.bool true) := hb.cell 5
  go_enter Try.func30, Try.ntmps30
  go_wp2_with fail
  go_ret
  exact ⟨rfl, rfl⟩
/-- what Burst returns -/
def burstI (T Tau : Int) : Int := if ¬ validL T Tau then 0 else if T = 0 then 0 else Tau / T + 1
def burstE (T Tau : Int) : Int := if ¬ validL T Tau then 16 else if T = 0 then 5 else 0
set_option maxHeartbeats 800000 in
theorem burst_any (T Tau : Int) (w : World) :
    Calls Try.prog 23 #[.agg #[.int .i64 T, .int .i64 Tau]] w fun e w' => e = .returned (.tuple #[.int .i64 (burstI T Tau), .int .i64 (burstE T Tau)]) ∧ G w w' := by
  by_cases hv : validL T Tau
  · have e1 : burstI T Tau = if T = 0 then 0 else Tau / T + 1 := by unfold burstI; rw [if_neg (by simpa using hv)]
    have e2 : burstE T Tau = if T = 0 then 5 else 0 := by unfold burstE; rw [if_neg (by simpa using hv)]
    rw [e1, e2]
    clear e1 e2
    by_cases h0 : T = 0
    · rw [if_pos h0, if_pos h0]
      have HV := Lib.hid hv
      clear hv
      subst h0
      go_enter Try.func23, Try.ntmps23
      go_wp2_with fail
      refine (valid_yes 0 Tau HV.out _).mono ?_
      rintro e w1 ⟨rfl, g1⟩
      have c0 : w1.cell? ⟨w.heap.size, 0, none⟩ = some (.int .i64 0) := g1.cell (by simp) (by simp)
      go_wp2_with fail
      go_ret2
      exact ⟨rfl, (by repeat (first | exact G.refl _ | refine G.alloc ?_ _ | refine G.drewN ?_ _ | refine G.drew ?_ | refine G.trans ?_ (by assumption)))⟩
    · rw [if_neg h0, if_neg h0]
      have hb : (T == 0) = false := by simpa using h0
      have hv2 := hv
      obtain ⟨⟨t0, t1⟩, ⟨u0, u1⟩, -⟩ := hv2
      have hp : 1 ≤ T := by omega
      have hq : 0 ≤ Tau / T := Int.ediv_nonneg u0 t0
      have hq2 : Tau / T ≤ 68719476736 := Int.le_trans (Int.ediv_le_self _ u0) u1
      have HV := Lib.hid hv
      clear hv h0
      go_enter Try.func23, Try.ntmps23
      go_wp2_with fail
      refine (valid_yes T Tau HV.out _).mono ?_
      rintro e w1 ⟨rfl, g1⟩
      have c0 : w1.cell? ⟨w.heap.size, 0, none⟩ = some (.int .i64 T) := g1.cell (by simp) (by simp)
      have c1 : w1.cell? ⟨w.heap.size, 1, none⟩ = some (.int .i64 Tau) := g1.cell (by simp) (by simp)
      go_wp2_with fail
      go_ret2
      exact ⟨rfl, (by repeat (first | exact G.refl _ | refine G.alloc ?_ _ | refine G.drewN ?_ _ | refine G.drew ?_ | refine G.trans ?_ (by assumption)))⟩
  · have e1 : burstI T Tau = 0 := by unfold burstI; rw [if_pos hv]
    have e2 : burstE T Tau = 16 := by unfold burstE; rw [if_pos hv]
    rw [e1, e2]
    clear e1 e2
    have HV := Lib.hid hv
    clear hv
    go_enter Try.func23, Try.ntmps23
    go_wp2_with fail
    refine (valid_no T Tau HV.out _).mono ?_
    rintro e w1 ⟨rfl, g1⟩
    go_wp2_with fail
    go_ret2
    exact ⟨rfl, (by repeat (first | exact G.refl _ | refine G.alloc ?_ _ | refine G.drewN ?_ _ | refine G.drew ?_ | refine G.trans ?_ (by assumption)))⟩
end Go.Proofs.Ytgookddningjpaa
