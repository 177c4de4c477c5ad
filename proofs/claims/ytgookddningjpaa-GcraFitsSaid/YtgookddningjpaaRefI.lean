/-
  Contracts of package wakemanref23, further ones: Allows, Take, Next, Tat; agree.
-/
import Derived.Test.YtgookddningjpaaRefH
set_option linter.unusedVariables false
set_option linter.unusedSimpArgs false
namespace Go.Proofs.Ytgookddningjpaa
open Go.RowKit

set_option maxHeartbeats 800000 in
theorem rallows_any (k : Nat) (som : Bool) (tat last T Tau now : Int) (ho : Okl tat last T Tau) (w : World) (hb : RLim w k som tat last T Tau) :
    Calls Try.prog 50 #[.pointer (some ⟨k, 0, none⟩), .int .i64 now] w fun e w' => e = .returned (.bool (checkE som tat last T Tau now == 0)) ∧ G w w' := by
  have HO := Lib.hid ho
  clear ho
  go_enter Try.func50, Try.ntmps50
  go_wp2_with fail
  refine (rwrong_any k som tat last T Tau now HO.out _ hb).mono ?_
  rintro e w2 ⟨rfl, g2⟩
  go_wp2_with fail
  go_ret
  exact ⟨rfl, g2⟩
set_option maxHeartbeats 1600000 in
theorem rtake_ok (k : Nat) (som : Bool) (tat last T Tau now : Int) (ho : Okl tat last T Tau) (hs : som = false → tat = 0) (hc : checkE som tat last T Tau now = 0) (w : World) (hb : RLim w k som tat last T Tau) :
    Calls Try.prog 32 #[.pointer (some ⟨k, 0, none⟩), .int .i64 now] w fun e w' => e = .returned (.int .i64 0) ∧ w.grownBy w' (some k) ∧ RLim w' k true (max now tat + T) now T Tau := by
  have HO := Lib.hid ho
  have HC := Lib.hid hc
  obtain ⟨n0, n1⟩ := isT_of_ok hc
  obtain ⟨⟨t0, t1⟩, ⟨u0, u1⟩, ⟨a0, a1⟩, -⟩ := ho
  clear hc
  cases som with
  | false =>
    obtain rfl : tat = 0 := hs rfl
    rw [show max now 0 = now by omega]
    clear hs
    go_enter Try.func32, Try.ntmps32
    go_wp2_with fail
    refine (rwrong_any k false 0 last T Tau now HO.out _ hb).mono ?_
    rintro e w2 ⟨rfl, g2⟩
    rw [HC.out]
    have hb2 := hb.g g2
    have c1 : w2.cell? ⟨k, 1, none⟩ = some (.int .i64 T) := hb2.cell 1
    have c3 : w2.cell? ⟨k, 3, none⟩ = some (.bool false) := hb2.cell 3
    have c4 : w2.cell? ⟨k, 4, none⟩ = some (.int .i64 0) := hb2.cell 4
    have c5 : w2.cell? ⟨k, 5, none⟩ = some (.int .i64 last) := hb2.cell 5
    have f3 := hb2.frozen 3
    have f4 := hb2.frozen 4
    have f5 := hb2.frozen 5
    go_wp2_with fail
    go_ret
    exact ⟨rfl, grown_trans (grown_of_G g2 _) (grown_setCell (grown_setCell (grown_setCell (grown_of_G (G.refl _) _) 4 _) 3 _) 5 _), ((hb2.set_ 4 _).set_ 3 _).set_ 5 _⟩
  | true =>
    clear hs
    by_cases hc : now < tat
    · rw [show max now tat = tat by omega]
      go_enter Try.func32, Try.ntmps32
      go_wp2_with fail
      refine (rwrong_any k true tat last T Tau now HO.out _ hb).mono ?_
      rintro e w2 ⟨rfl, g2⟩
      rw [HC.out]
      have hb2 := hb.g g2
      have c1 : w2.cell? ⟨k, 1, none⟩ = some (.int .i64 T) := hb2.cell 1
      have c3 : w2.cell? ⟨k, 3, none⟩ = some (.bool true) := hb2.cell 3
      have c4 : w2.cell? ⟨k, 4, none⟩ = some (.int .i64 tat) := hb2.cell 4
      have c5 : w2.cell? ⟨k, 5, none⟩ = some (.int .i64 last) := hb2.cell 5
      have f3 := hb2.frozen 3
      have f4 := hb2.frozen 4
      have f5 := hb2.frozen 5
      go_wp2_with fail
      go_region
      all_goals go_wp2_with fail
      go_ret
      exact ⟨rfl, grown_trans (grown_of_G g2 _) (grown_drew (grown_setCell (grown_setCell (grown_setCell (grown_of_G (G.refl _) _) 4 _) 3 _) 5 _)), ((hb2.set_ 4 _).set_ 3 _).set_ 5 _⟩
    · have hc : tat ≤ now := by omega
      rw [show max now tat = now by omega]
      go_enter Try.func32, Try.ntmps32
      go_wp2_with fail
      refine (rwrong_any k true tat last T Tau now HO.out _ hb).mono ?_
      rintro e w2 ⟨rfl, g2⟩
      rw [HC.out]
      have hb2 := hb.g g2
      have c1 : w2.cell? ⟨k, 1, none⟩ = some (.int .i64 T) := hb2.cell 1
      have c3 : w2.cell? ⟨k, 3, none⟩ = some (.bool true) := hb2.cell 3
      have c4 : w2.cell? ⟨k, 4, none⟩ = some (.int .i64 tat) := hb2.cell 4
      have c5 : w2.cell? ⟨k, 5, none⟩ = some (.int .i64 last) := hb2.cell 5
      have f3 := hb2.frozen 3
      have f4 := hb2.frozen 4
      have f5 := hb2.frozen 5
      go_wp2_with fail
      go_region
      all_goals go_wp2_with fail
      go_ret
      exact ⟨rfl, grown_trans (grown_of_G g2 _) (grown_drew (grown_setCell (grown_setCell (grown_setCell (grown_of_G (G.refl _) _) 4 _) 3 _) 5 _)), ((hb2.set_ 4 _).set_ 3 _).set_ 5 _⟩
set_option maxHeartbeats 800000 in
theorem rtake_no (k : Nat) (som : Bool) (tat last T Tau now : Int) (ho : Okl tat last T Tau) (hc : checkE som tat last T Tau now ≠ 0) (w : World) (hb : RLim w k som tat last T Tau) :
    Calls Try.prog 32 #[.pointer (some ⟨k, 0, none⟩), .int .i64 now] w fun e w' => e = .returned (.int .i64 (checkE som tat last T Tau now)) ∧ G w w' := by
  have HO := Lib.hid ho
  have hc' : (checkE som tat last T Tau now == 0) = false := by simpa using hc
  have hc2 : (checkE som tat last T Tau now != 0) = true := by simpa using hc
  clear ho hc
  go_enter Try.func32, Try.ntmps32
  go_wp2_with fail
  refine (rwrong_any k som tat last T Tau now HO.out _ hb).mono ?_
  rintro e w2 ⟨rfl, g2⟩
  go_wp2_with fail
  go_ret
  exact ⟨rfl, g2⟩
theorem rtake_gen (k : Nat) (som : Bool) (tat last T U now : Int) (ho : Okl tat last T U) (hs : som = false → tat = 0) (w : World) (hb : RLim w k som tat last T U) :
    Calls Try.prog 32 #[.pointer (some ⟨k, 0, none⟩), .int .i64 now] w fun e w' => e = .returned (.int .i64 (checkE som tat last T U now)) ∧ w.grownBy w' (some k) ∧ RLim w' k (tkS som tat last T U now) (tkT som tat last T U now) (tkL som tat last T U now) T U := by
  unfold tkS tkT tkL
  by_cases hc : checkE som tat last T U now = 0
  · rw [if_pos hc, if_pos hc, if_pos hc]
    refine (rtake_ok k som tat last T U now ho hs hc w hb).mono ?_
    rintro e w1 ⟨rfl, g, l⟩
    rw [hc]
    exact ⟨rfl, g, l⟩
  · rw [if_neg hc, if_neg hc, if_neg hc]
    refine (rtake_no k som tat last T U now ho hc w hb).mono ?_
    rintro e w1 ⟨rfl, g⟩
    exact ⟨rfl, grown_of_G g _, hb.g g⟩
set_option maxHeartbeats 400000 in
theorem rtat_any (k : Nat) (som : Bool) (tat last T Tau : Int) (hs : som = false → tat = 0) (w : World) (hb : RLim w k som tat last T Tau) :
    Calls Try.prog 48 #[.pointer (some ⟨k, 0, none⟩)] w fun e w' => e = .returned (.tuple #[.int .i64 tat, .bool som]) ∧ G w w' := by
  have c3 : w.cell? ⟨k, 3, none⟩ = some (.bool som) := hb.cell 3
  have c4 : w.cell? ⟨k, 4, none⟩ = some (.int .i64 tat) := hb.cell 4
  cases som with
  | false =>
    obtain rfl : tat = 0 := hs rfl
    clear hs
    go_enter Try.func48, Try.ntmps48
    go_wp2_with fail
    refine (rvalid_at k _ _ last T Tau _ hb).mono ?_
    rintro e w1 ⟨rfl, rfl⟩
    go_wp2_with fail
    go_ret2
    exact ⟨rfl, (by repeat (first | exact G.refl _ | refine G.alloc ?_ _ | refine G.drewN ?_ _ | refine G.drew ?_ | refine G.trans ?_ (by assumption)))⟩
  | true =>
    clear hs
    go_enter Try.func48, Try.ntmps48
    go_wp2_with fail
    refine (rvalid_at k _ _ last T Tau _ hb).mono ?_
    rintro e w1 ⟨rfl, rfl⟩
    go_wp2_with fail
    go_ret2
    exact ⟨rfl, (by repeat (first | exact G.refl _ | refine G.alloc ?_ _ | refine G.drewN ?_ _ | refine G.drew ?_ | refine G.trans ?_ (by assumption)))⟩
set_option maxHeartbeats 1600000 in
theorem rnext_no (k : Nat) (som : Bool) (tat last T Tau now : Int) (hn : ¬ isT now) (w : World) (hb : RLim w k som tat last T Tau) :
    Calls Try.prog 49 #[.pointer (some ⟨k, 0, none⟩), .int .i64 now] w fun e w' => e = .returned (.tuple #[.int .i64 0, .int .i64 14]) ∧ G w w' := by
  by_cases h0 : now < 0
  · clear hn
    go_enter Try.func49, Try.ntmps49
    go_wp2_with fail
    refine (rvalid_at k _ tat last T Tau _ hb).mono ?_
    rintro e w1 ⟨rfl, rfl⟩
    go_wp2_with fail
    go_ret2
    exact ⟨rfl, (by repeat (first | exact G.refl _ | refine G.alloc ?_ _ | refine G.drewN ?_ _ | refine G.drew ?_ | refine G.trans ?_ (by assumption)))⟩
  · have d0 : decide (now < 0) = false := by simpa using h0
    have d1 : 253402300799 < now := by unfold isT at hn; omega
    clear hn h0
    go_enter Try.func49, Try.ntmps49
    go_wp2_with fail
    refine (rvalid_at k _ tat last T Tau _ hb).mono ?_
    rintro e w1 ⟨rfl, rfl⟩
    go_wp2_with fail
    go_ret2
    exact ⟨rfl, (by repeat (first | exact G.refl _ | refine G.alloc ?_ _ | refine G.drewN ?_ _ | refine G.drew ?_ | refine G.trans ?_ (by assumption)))⟩
set_option maxRecDepth 4000 in
set_option maxHeartbeats 3200000 in
theorem rnext_any (k : Nat) (som : Bool) (tat last T Tau now : Int) (ho : Okl tat last T Tau) (hn : isT now) (w : World) (hb : RLim w k som tat last T Tau) :
    Calls Try.prog 49 #[.pointer (some ⟨k, 0, none⟩), .int .i64 now] w fun e w' => e = .returned (.tuple #[.int .i64 (nextI som tat last T Tau now), .int .i64 0]) ∧ G w w' := by
  have c3 : w.cell? ⟨k, 3, none⟩ = some (.bool som) := hb.cell 3
  have c5 : w.cell? ⟨k, 5, none⟩ = some (.int .i64 last) := hb.cell 5
  have HO := Lib.hid ho
  obtain ⟨n0, n1⟩ := hn
  have d0 : decide (now < 0) = false := by simp; omega
  have d1 : decide (253402300799 < now) = false := by simp; omega
  clear ho
  cases som with
  | false =>
    have HF : Hid (earlyB false tat T Tau now = false) := Lib.hid (by simp [earlyB])
    go_enter Try.func49, Try.ntmps49
    go_wp2_with fail
    refine (rvalid_at k _ tat last T Tau _ hb).mono ?_
    rintro e w1 ⟨rfl, rfl⟩
    go_wp2_with fail
    refine (rearly_any k false tat last T Tau now HO.out _ hb).mono ?_
    rintro e w2 ⟨rfl, g2⟩
    rw [HF.out]
    go_wp2_with fail
    go_ret2
    exact ⟨rfl, (by repeat (first | exact G.refl _ | refine G.alloc ?_ _ | refine G.drewN ?_ _ | refine G.drew ?_ | refine G.trans ?_ (by assumption)))⟩
  | true =>
    obtain ⟨m, hm⟩ : ∃ m, max now last = m := ⟨_, rfl⟩
    have hmc : (now < last ∧ m = last) ∨ (last ≤ now ∧ m = now) := by omega
    have hnx : nextI true tat last T Tau now = if earlyB true tat T Tau m = true then tat - Tau else m := by rw [← hm]; rfl
    rw [hnx]
    clear hm hnx
    by_cases hc : now < last
    · obtain rfl : m = last := by omega
      clear hmc
      by_cases he : earlyB true tat T Tau m = true
      · rw [if_pos he]
        have he2 : earlyB true tat T Tau m = true := by simpa using he
        have HEE := Lib.hid he2
        clear he he2
        go_enter Try.func49, Try.ntmps49
        go_wp2_with fail
        refine (rvalid_at k _ tat m T Tau _ hb).mono ?_
        rintro e w1 ⟨rfl, rfl⟩
        go_wp2_with fail
        refine (rearly_any k true tat m T Tau m HO.out _ hb).mono ?_
        rintro e w2 ⟨rfl, g2⟩
        rw [HEE.out]
        have hb2 := hb.g g2
        have d4 : w2.cell? ⟨k, 4, none⟩ = some (.int .i64 tat) := hb2.cell 4
        have d2 : w2.cell? ⟨k, 2, none⟩ = some (.int .i64 Tau) := hb2.cell 2
        obtain ⟨⟨t0, t1⟩, ⟨u0, u1⟩, ⟨a0, a1⟩, -⟩ := HO.out
        go_wp2_with fail
        go_quiet (fail)
        go_wp2_with fail
        go_ret2
        exact ⟨rfl, (by repeat (first | exact G.refl _ | refine G.alloc ?_ _ | refine G.drewN ?_ _ | refine G.drew ?_ | refine G.trans ?_ (by assumption)))⟩
      · rw [if_neg he]
        have he2 : earlyB true tat T Tau m = false := by simpa using he
        have HEE := Lib.hid he2
        clear he he2
        go_enter Try.func49, Try.ntmps49
        go_wp2_with fail
        refine (rvalid_at k _ tat m T Tau _ hb).mono ?_
        rintro e w1 ⟨rfl, rfl⟩
        go_wp2_with fail
        refine (rearly_any k true tat m T Tau m HO.out _ hb).mono ?_
        rintro e w2 ⟨rfl, g2⟩
        rw [HEE.out]
        go_wp2_with fail
        go_ret2
        exact ⟨rfl, (by repeat (first | exact G.refl _ | refine G.alloc ?_ _ | refine G.drewN ?_ _ | refine G.drew ?_ | refine G.trans ?_ (by assumption)))⟩
    · obtain rfl : m = now := by omega
      have hc' : last ≤ m := by omega
      clear hmc hc
      by_cases he : earlyB true tat T Tau m = true
      · rw [if_pos he]
        have he2 : earlyB true tat T Tau m = true := by simpa using he
        have HEE := Lib.hid he2
        clear he he2
        go_enter Try.func49, Try.ntmps49
        go_wp2_with fail
        refine (rvalid_at k _ tat last T Tau _ hb).mono ?_
        rintro e w1 ⟨rfl, rfl⟩
        go_wp2_with fail
        refine (rearly_any k true tat last T Tau m HO.out _ hb).mono ?_
        rintro e w2 ⟨rfl, g2⟩
        rw [HEE.out]
        have hb2 := hb.g g2
        have d4 : w2.cell? ⟨k, 4, none⟩ = some (.int .i64 tat) := hb2.cell 4
        have d2 : w2.cell? ⟨k, 2, none⟩ = some (.int .i64 Tau) := hb2.cell 2
        obtain ⟨⟨t0, t1⟩, ⟨u0, u1⟩, ⟨a0, a1⟩, -⟩ := HO.out
        go_wp2_with fail
        go_quiet (fail)
        go_wp2_with fail
        go_ret2
        exact ⟨rfl, (by repeat (first | exact G.refl _ | refine G.alloc ?_ _ | refine G.drewN ?_ _ | refine G.drew ?_ | refine G.trans ?_ (by assumption)))⟩
      · rw [if_neg he]
        have he2 : earlyB true tat T Tau m = false := by simpa using he
        have HEE := Lib.hid he2
        clear he he2
        go_enter Try.func49, Try.ntmps49
        go_wp2_with fail
        refine (rvalid_at k _ tat last T Tau _ hb).mono ?_
        rintro e w1 ⟨rfl, rfl⟩
        go_wp2_with fail
        refine (rearly_any k true tat last T Tau m HO.out _ hb).mono ?_
        rintro e w2 ⟨rfl, g2⟩
        rw [HEE.out]
        go_wp2_with fail
        go_ret2
        exact ⟨rfl, (by repeat (first | exact G.refl _ | refine G.alloc ?_ _ | refine G.drewN ?_ _ | refine G.drew ?_ | refine G.trans ?_ (by assumption)))⟩
end Go.Proofs.Ytgookddningjpaa
