/-
  Contracts of package gcra, further ones: New, early, count, check, Take, Allows.
-/
import Derived.Test.YtgookddningjpaaGcC
import Derived.BigRegion
set_option linter.unusedVariables false
set_option linter.unusedSimpArgs false
namespace Go.Proofs.Ytgookddningjpaa
open Go.RowKit

set_option maxHeartbeats 800000 in
theorem new_yes (T Tau : Int) (h : validL T Tau) (w : World) :
    Calls Try.prog 20 #[.agg #[.int .i64 T, .int .i64 Tau]] w fun e w' => ∃ k, e = .returned (.tuple #[.pointer (some ⟨k, 0, none⟩), .int .i64 0]) ∧ w.heap.size ≤ k ∧ G w w' ∧ Lim w' k false 0 0 T Tau := by
  go_enter Try.func20, Try.ntmps20
  go_wp2_with fail
  refine (valid_yes T Tau h _).mono ?_
  rintro e w1 ⟨rfl, g1⟩
  have c0 : w1.cell? ⟨w.heap.size, 0, none⟩ = some (.int .i64 T) := g1.cell (by simp) (by simp)
  have c1 : w1.cell? ⟨w.heap.size, 1, none⟩ = some (.int .i64 Tau) := g1.cell (by simp) (by simp)
  have g0 : G w w1 := (by repeat (first | exact G.refl _ | refine G.alloc ?_ _ | refine G.drewN ?_ _ | refine G.drew ?_ | refine G.trans ?_ (by assumption)))
  go_wp2_with fail
  go_ret2
  exact ⟨_, rfl, g0.size, g0.alloc _, Blk.new _ _ _⟩
set_option maxHeartbeats 800000 in
theorem new_no (T Tau : Int) (h : ¬ validL T Tau) (w : World) :
    Calls Try.prog 20 #[.agg #[.int .i64 T, .int .i64 Tau]] w fun e w' => e = .returned (.tuple #[.pointer none, .int .i64 16]) ∧ G w w' := by
  have HH := Lib.hid h
  clear h
  go_enter Try.func20, Try.ntmps20
  go_wp2_with fail
  refine (valid_no T Tau HH.out _).mono ?_
  rintro e w1 ⟨rfl, g1⟩
  go_wp2_with fail
  go_ret2
  exact ⟨rfl, (by repeat (first | exact G.refl _ | refine G.alloc ?_ _ | refine G.drewN ?_ _ | refine G.drew ?_ | refine G.trans ?_ (by assumption)))⟩

set_option maxHeartbeats 800000 in
theorem early_any (k : Nat) (som : Bool) (tat last T Tau now : Int) (ho : Okl tat last T Tau) (w : World) (hb : Lim w k som tat last T Tau) :
    Calls Try.prog 41 #[.pointer (some ⟨k, 0, none⟩), .int .i64 now] w fun e w' => e = .returned (.bool (earlyB som tat T Tau now)) ∧ G w w' := by
  have c0 : w.cell? ⟨k, 0, none⟩ = some (.bool som) := hb.cell 0
  have c1 : w.cell? ⟨k, 1, none⟩ = some (.int .i64 tat) := hb.cell 1
  have c3 : w.cell? ⟨k, 3, none⟩ = some (.int .i64 T) := hb.cell 3
  have c4 : w.cell? ⟨k, 4, none⟩ = some (.int .i64 Tau) := hb.cell 4
  obtain ⟨⟨t0, t1⟩, ⟨u0, u1⟩, ⟨a0, a1⟩, -⟩ := ho
  by_cases hT : 0 < T
  · cases som
    · go_enter Try.func41, Try.ntmps41
      go_wp2_with fail
      go_quiet (fail)
      go_wp2_with fail
      go_ret
      exact ⟨by simp [earlyB], (by repeat (first | exact G.refl _ | refine G.alloc ?_ _ | refine G.drewN ?_ _ | refine G.drew ?_ | refine G.trans ?_ (by assumption)))⟩
    · go_enter Try.func41, Try.ntmps41
      go_wp2_with fail
      go_quiet (fail)
      go_wp2_with fail
      go_ret
      exact ⟨by simp [earlyB, hT], (by repeat (first | exact G.refl _ | refine G.alloc ?_ _ | refine G.drewN ?_ _ | refine G.drew ?_ | refine G.trans ?_ (by assumption)))⟩
  · have hT' : decide (0 < T) = false := by simpa using hT
    go_enter Try.func41, Try.ntmps41
    go_wp2_with fail
    go_quiet (fail)
    go_wp2_with fail
    go_ret
    exact ⟨by simp only [earlyB, hT', Bool.false_and]; rfl, (by repeat (first | exact G.refl _ | refine G.alloc ?_ _ | refine G.drewN ?_ _ | refine G.drew ?_ | refine G.trans ?_ (by assumption)))⟩

set_option maxHeartbeats 1600000 in
theorem count_any (k : Nat) (som : Bool) (tat last T Tau now : Int) (ho : Okl tat last T Tau) (hn : isT now) (w : World) (hb : Lim w k som tat last T Tau) :
    Calls Try.prog 42 #[.pointer (some ⟨k, 0, none⟩), .int .i64 now] w fun e w' => e = .returned (.tuple #[]) ∧ w.grownBy w' (some k) ∧ Lim w' k true (max now tat + T) now T Tau := by
  have c0 : w.cell? ⟨k, 0, none⟩ = some (.bool som) := hb.cell 0
  have c1 : w.cell? ⟨k, 1, none⟩ = some (.int .i64 tat) := hb.cell 1
  have c2 : w.cell? ⟨k, 2, none⟩ = some (.int .i64 last) := hb.cell 2
  have c3 : w.cell? ⟨k, 3, none⟩ = some (.int .i64 T) := hb.cell 3
  have f0 := hb.frozen 0
  have f1 := hb.frozen 1
  have f2 := hb.frozen 2
  obtain ⟨⟨t0, t1⟩, ⟨u0, u1⟩, ⟨a0, a1⟩, -⟩ := ho
  obtain ⟨n0, n1⟩ := hn
  by_cases hc : now < tat
  · have hm : max now tat = tat := by omega
    rw [hm]
    clear hm
    go_enter Try.func42, Try.ntmps42
    go_wp2_with fail
    go_region
    all_goals go_wp2_with fail
    go_end0
    exact ⟨rfl, grown_drew (grown_setCell (grown_setCell (grown_setCell (grown_of_G (G.refl _) _) 1 _) 2 _) 0 _), ((hb.set_ 1 _).set_ 2 _).set_ 0 _⟩
  · have hc' : tat ≤ now := by omega
    have hm : max now tat = now := by omega
    clear hc
    rw [hm]
    clear hm
    go_enter Try.func42, Try.ntmps42
    go_wp2_with fail
    go_region
    all_goals go_wp2_with fail
    go_end0
    exact ⟨rfl, grown_drew (grown_setCell (grown_setCell (grown_setCell (grown_of_G (G.refl _) _) 1 _) 2 _) 0 _), ((hb.set_ 1 _).set_ 2 _).set_ 0 _⟩
/-- what Take makes of a limiter's numbers keeps them in their bounds -/
theorem okl_take {som : Bool} {tat last T Tau now : Int} (ho : Okl tat last T Tau) (h : checkE som tat last T Tau now = 0) (hs : som = false → tat = 0) (hT : T = 0 → tat ≤ 253402300799) : Okl (max now tat + T) now T Tau ∧ (T = 0 → max now tat + T ≤ 253402300799) := by
  unfold checkE at h
  split at h
  · cases h
  · rename_i hn
    split at h
    · cases h
    · split at h
      · cases h
      · rename_i h1 h2
        have hn : isT now := Classical.not_not.1 hn
        obtain ⟨n0, n1⟩ := hn
        obtain ⟨⟨t0, t1⟩, ⟨u0, u1⟩, ⟨a0, a1⟩, l0, l1⟩ := ho
        have : max now tat + T ≤ 390841254271 ∧ (T = 0 → max now tat + T ≤ 253402300799) := by
          cases som
          · have := hs rfl; omega
          · simp [earlyB] at h2
            by_cases hT0 : 0 < T
            · have := h2 hT0; omega
            · have := hT (by omega); omega
        exact ⟨⟨⟨t0, t1⟩, ⟨u0, u1⟩, ⟨by omega, this.1⟩, n0, n1⟩, this.2⟩

set_option maxHeartbeats 1600000 in
theorem check_any (k : Nat) (som : Bool) (tat last T Tau now : Int) (ho : Okl tat last T Tau) (w : World) (hb : Lim w k som tat last T Tau) :
    Calls Try.prog 44 #[.pointer (some ⟨k, 0, none⟩), .int .i64 now] w fun e w' => e = .returned (.int .i64 (checkE som tat last T Tau now)) ∧ G w w' := by
  have c0 : w.cell? ⟨k, 0, none⟩ = some (.bool som) := hb.cell 0
  have c2 : w.cell? ⟨k, 2, none⟩ = some (.int .i64 last) := hb.cell 2
  have c5 : w.cell? ⟨k, 5, none⟩ = some (.bool true) := hb.cell 5
  have HO := Lib.hid ho
  clear ho
  by_cases hn : isT now
  · have hE : checkE som tat last T Tau now = if som = true ∧ now < last then 8 else if earlyB som tat T Tau now = true then 9 else 0 := by
      unfold checkE; rw [if_neg (by simpa using hn)]
    rw [hE]
    clear hE
    have HN := Lib.hid hn
    clear hn
    by_cases hl : som = true ∧ now < last
    · rw [if_pos hl]
      obtain ⟨rfl, hl⟩ := hl
      go_enter Try.func44, Try.ntmps44
      go_wp2_with fail
      refine (isTime_yes now HN.out _).mono ?_
      rintro e w1 ⟨rfl, rfl⟩
      go_wp2_with fail
      go_ret
      exact ⟨rfl, (by repeat (first | exact G.refl _ | refine G.alloc ?_ _ | refine G.drewN ?_ _ | refine G.drew ?_ | refine G.trans ?_ (by assumption)))⟩
    · rw [if_neg hl]
      have hs : som = false ∨ som = true := by cases som <;> simp
      rcases hs with rfl | rfl
      · clear hl
        by_cases he : earlyB false tat T Tau now = true
        · rw [if_pos he]
          have HEE := Lib.hid he
          clear he
          go_enter Try.func44, Try.ntmps44
          go_wp2_with fail
          refine (isTime_yes now HN.out _).mono ?_
          rintro e w1 ⟨rfl, rfl⟩
          go_wp2_with fail
          refine (early_any k false tat last T Tau now HO.out _ hb).mono ?_
          rintro e w2 ⟨rfl, g2⟩
          rw [HEE.out]
          go_wp2_with fail
          go_ret
          exact ⟨rfl, (by repeat (first | exact G.refl _ | refine G.alloc ?_ _ | refine G.drewN ?_ _ | refine G.drew ?_ | refine G.trans ?_ (by assumption)))⟩
        · rw [if_neg he]
          have he : earlyB false tat T Tau now = false := by simpa using he
          have HEE := Lib.hid he
          clear he
          go_enter Try.func44, Try.ntmps44
          go_wp2_with fail
          refine (isTime_yes now HN.out _).mono ?_
          rintro e w1 ⟨rfl, rfl⟩
          go_wp2_with fail
          refine (early_any k false tat last T Tau now HO.out _ hb).mono ?_
          rintro e w2 ⟨rfl, g2⟩
          rw [HEE.out]
          go_wp2_with fail
          go_ret
          exact ⟨rfl, (by repeat (first | exact G.refl _ | refine G.alloc ?_ _ | refine G.drewN ?_ _ | refine G.drew ?_ | refine G.trans ?_ (by assumption)))⟩
      · have hl' : last ≤ now := by simp at hl; omega
        clear hl
        by_cases he : earlyB true tat T Tau now = true
        · rw [if_pos he]
          have HEE := Lib.hid he
          clear he
          go_enter Try.func44, Try.ntmps44
          go_wp2_with fail
          refine (isTime_yes now HN.out _).mono ?_
          rintro e w1 ⟨rfl, rfl⟩
          go_wp2_with fail
          refine (early_any k true tat last T Tau now HO.out _ hb).mono ?_
          rintro e w2 ⟨rfl, g2⟩
          rw [HEE.out]
          go_wp2_with fail
          go_ret
          exact ⟨rfl, (by repeat (first | exact G.refl _ | refine G.alloc ?_ _ | refine G.drewN ?_ _ | refine G.drew ?_ | refine G.trans ?_ (by assumption)))⟩
        · rw [if_neg he]
          have he : earlyB true tat T Tau now = false := by simpa using he
          have HEE := Lib.hid he
          clear he
          go_enter Try.func44, Try.ntmps44
          go_wp2_with fail
          refine (isTime_yes now HN.out _).mono ?_
          rintro e w1 ⟨rfl, rfl⟩
          go_wp2_with fail
          refine (early_any k true tat last T Tau now HO.out _ hb).mono ?_
          rintro e w2 ⟨rfl, g2⟩
          rw [HEE.out]
          go_wp2_with fail
          go_ret
          exact ⟨rfl, (by repeat (first | exact G.refl _ | refine G.alloc ?_ _ | refine G.drewN ?_ _ | refine G.drew ?_ | refine G.trans ?_ (by assumption)))⟩
  · have hE : checkE som tat last T Tau now = 14 := by unfold checkE; rw [if_pos hn]
    rw [hE]
    clear hE
    have HN := Lib.hid hn
    clear hn
    go_enter Try.func44, Try.ntmps44
    go_wp2_with fail
    refine (isTime_no now HN.out _).mono ?_
    rintro e w1 ⟨rfl, rfl⟩
    go_wp2_with fail
    go_ret
    exact ⟨rfl, (by repeat (first | exact G.refl _ | refine G.alloc ?_ _ | refine G.drewN ?_ _ | refine G.drew ?_ | refine G.trans ?_ (by assumption)))⟩
set_option maxHeartbeats 800000 in
theorem allows_any (k : Nat) (som : Bool) (tat last T Tau now : Int) (ho : Okl tat last T Tau) (w : World) (hb : Lim w k som tat last T Tau) :
    Calls Try.prog 22 #[.pointer (some ⟨k, 0, none⟩), .int .i64 now] w fun e w' => e = .returned (.bool (checkE som tat last T Tau now == 0)) ∧ G w w' := by
  have HO := Lib.hid ho
  clear ho
  go_enter Try.func22, Try.ntmps22
  go_wp2_with fail
  refine (check_any k som tat last T Tau now HO.out _ hb).mono ?_
  rintro e w2 ⟨rfl, g2⟩
  go_wp2_with fail
  go_ret
  exact ⟨rfl, g2⟩
theorem isT_of_ok {som : Bool} {tat last T Tau now : Int} (h : checkE som tat last T Tau now = 0) : isT now := by
  unfold checkE at h
  split at h
  · cases h
  · rename_i hn; exact Classical.not_not.1 hn
set_option maxHeartbeats 800000 in
theorem take_ok (k : Nat) (som : Bool) (tat last T Tau now : Int) (ho : Okl tat last T Tau) (hc : checkE som tat last T Tau now = 0) (w : World) (hb : Lim w k som tat last T Tau) :
    Calls Try.prog 21 #[.pointer (some ⟨k, 0, none⟩), .int .i64 now] w fun e w' => e = .returned (.int .i64 0) ∧ w.grownBy w' (some k) ∧ Lim w' k true (max now tat + T) now T Tau := by
  have HO := Lib.hid ho
  have HC := Lib.hid hc
  clear ho hc
  go_enter Try.func21, Try.ntmps21
  go_wp2_with fail
  refine (check_any k som tat last T Tau now HO.out _ hb).mono ?_
  rintro e w2 ⟨rfl, g2⟩
  rw [HC.out]
  go_wp2_with fail
  refine (count_any k som tat last T Tau now HO.out (isT_of_ok HC.out) _ (hb.g g2)).mono ?_
  rintro e w3 ⟨rfl, g3, hb3⟩
  go_wp2_with fail
  go_ret
  exact ⟨rfl, grown_trans (grown_of_G g2 _) g3, hb3⟩
set_option maxHeartbeats 800000 in
theorem take_no (k : Nat) (som : Bool) (tat last T Tau now : Int) (ho : Okl tat last T Tau) (hc : checkE som tat last T Tau now ≠ 0) (w : World) (hb : Lim w k som tat last T Tau) :
    Calls Try.prog 21 #[.pointer (some ⟨k, 0, none⟩), .int .i64 now] w fun e w' => e = .returned (.int .i64 (checkE som tat last T Tau now)) ∧ G w w' := by
  have HO := Lib.hid ho
  have hc' : (checkE som tat last T Tau now == 0) = false := by simpa using hc
  have hc2 : (checkE som tat last T Tau now != 0) = true := by simpa using hc
  clear ho hc
  go_enter Try.func21, Try.ntmps21
  go_wp2_with fail
  refine (check_any k som tat last T Tau now HO.out _ hb).mono ?_
  rintro e w2 ⟨rfl, g2⟩
  go_wp2_with fail
  go_ret
  exact ⟨rfl, g2⟩
end Go.Proofs.Ytgookddningjpaa
