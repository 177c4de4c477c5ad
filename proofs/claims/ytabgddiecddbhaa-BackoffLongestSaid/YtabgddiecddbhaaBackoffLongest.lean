/-
  BackoffLongest: the longest wait is the last one and the greatest jitter; no wait with a jitter below Jitter is longer.
-/
import Derived.Test.YtabgddiecddbhaaTieR
import Derived.Test.YtabgddiecddbhaaBkX
import Derived.Deep.RegionHeld3
set_option linter.unusedVariables false
set_option linter.unusedSimpArgs false
namespace Go.Proofs.Ytabgddiecddbhaa.lawBackoffLongest
open Go.ChangeShapes Go.WideShapes Go.ChangeAt Go.RowKit

theorem mono_ {m : Nat} {B C J : Int} (hok : okR m B C J) {i j : Nat} (h : i ≤ j) : wAt B C i ≤ wAt B C j := by
  induction j with
  | zero => obtain rfl : i = 0 := by omega
            exact Int.le_refl _
  | succ j ih =>
    by_cases e : i = j + 1
    · rw [e]; exact Int.le_refl _
    · exact Int.le_trans (ih (by omega)) (wAt_mono hok j)
set_option maxRecDepth 20000 in
set_option maxHeartbeats 20000000 in
theorem walk {w : World} (M B C J : Int) (k : Int) (k0 : -9223372036854775808 ≤ k) (k1 : k ≤ 9223372036854775807) :
    Calls Try.prog 10 #[.agg #[.int .i64 M, .int .i64 B, .int .i64 C, .int .i64 J], .int .i64 k] w fun e w' => e = .returned (.bool true) ∧ G w w' := by
  by_cases hok : okR M B C J
  · obtain ⟨m, rfl⟩ : ∃ m : Nat, M = m := ⟨M.toNat, by unfold okR at hok; omega⟩
    have hm : m ≤ 20 := by unfold okR at hok; omega
    have HC : Hid (chkE m B C J = 0) := Lib.hid (if_pos hok)
    have HLN : Hid ((waitsL m B C J).length = m) := Lib.hid (by rw [waits_len_ok hok, Int.toNat_natCast])
    have HA : Hid (∀ k, k < m → at_ (waitsL m B C J) k = wAt B C k) := Lib.hid (fun k hk => (waits_at (by rw [HLN.out]; exact hk)).2.2)
    have HOK := Lib.hid hok
    clear hok
    by_cases hm0 : m = 0
    · subst hm0
      have HN : Hid (longI 0 B C J = 0) := Lib.hid (if_neg (by intro h; have := h.2; omega))
      have HC : Hid (chkE 0 B C J = 0) := HC
      show Calls Try.prog 10 #[.agg #[.int .i64 0, .int .i64 B, .int .i64 C, .int .i64 J], .int .i64 k] w _
      go_enter Try.func10, Try.ntmps10
      have hX := Blk.new w 23 #[.int .i64 0, .int .i64 B, .int .i64 C, .int .i64 J]
      have gX : G w (w.alloc (.cells #[.int .i64 0, .int .i64 B, .int .i64 C, .int .i64 J] 23)) := (by repeat (first | exact G.refl _ | refine G.alloc ?_ _ | refine G.drewN ?_ _ | refine G.drew ?_ | refine G.trans ?_ (by assumption)))
      go_wp2_with fail
      go_at_call 14
      refine (check_any 0 B C J _).mono ?_
      rintro e v1 ⟨rfl, g⟩
      rw [HC.out]
      replace hX := hX.g g
      replace gX := gX.trans g
      clear g
      have x0 : v1.cell? ⟨w.heap.size, 0, none⟩ = some (.int .i64 0) := hX.cell 0
      have x1 : v1.cell? ⟨w.heap.size, 1, none⟩ = some (.int .i64 B) := hX.cell 1
      have x2 : v1.cell? ⟨w.heap.size, 2, none⟩ = some (.int .i64 C) := hX.cell 2
      have x3 : v1.cell? ⟨w.heap.size, 3, none⟩ = some (.int .i64 J) := hX.cell 3
      go_wp2_with fail
      go_at_call 24
      refine (longest_any 0 B C J _).mono ?_
      rintro e v2 ⟨rfl, g⟩
      rw [HC.out, HN.out]
      clear x0 x1 x2 x3
      replace hX := hX.g g
      replace gX := gX.trans g
      clear g
      have x0 : v2.cell? ⟨w.heap.size, 0, none⟩ = some (.int .i64 0) := hX.cell 0
      have x1 : v2.cell? ⟨w.heap.size, 1, none⟩ = some (.int .i64 B) := hX.cell 1
      have x2 : v2.cell? ⟨w.heap.size, 2, none⟩ = some (.int .i64 C) := hX.cell 2
      have x3 : v2.cell? ⟨w.heap.size, 3, none⟩ = some (.int .i64 J) := hX.cell 3
      go_wp2_with fail
      go_at_call 17
      refine (list_any 0 B C J _).mono ?_
      rintro e v3 ⟨v, rfl, own, g⟩
      rw [HC.out]
      have hR1 := Rd.of_own own
      clear own
      clear x0 x1 x2 x3
      replace hX := hX.g g
      replace gX := gX.trans g
      clear g
      have x0 : v3.cell? ⟨w.heap.size, 0, none⟩ = some (.int .i64 0) := hX.cell 0
      have x1 : v3.cell? ⟨w.heap.size, 1, none⟩ = some (.int .i64 B) := hX.cell 1
      have x2 : v3.cell? ⟨w.heap.size, 2, none⟩ = some (.int .i64 C) := hX.cell 2
      have x3 : v3.cell? ⟨w.heap.size, 3, none⟩ = some (.int .i64 J) := hX.cell 3
      go_wp2_with fail
      go_at_call 16
      refine (works_any _).mono ?_
      rintro e v4 ⟨rfl, g⟩
      go_wp2_with fail
      go_ret
      exact ⟨rfl, gX.trans g⟩
    · obtain ⟨q, rfl⟩ : ∃ q, m = q + 1 := ⟨m - 1, by omega⟩
      have hJ1 : 0 ≤ J ∧ J ≤ 68719476736 := by have := HOK.out; unfold okR at this; omega
      by_cases hJ : J ≤ 1
      · have HN : Hid (longI ((q + 1 : Nat) : Int) B C J = wAt B C q) := Lib.hid (by unfold longI; rw [if_pos ⟨HOK.out, by omega⟩, show max (J - 1) 0 = 0 by omega, Int.add_zero]; congr 1; omega)
        go_enter Try.func10, Try.ntmps10
        have hX := Blk.new w 23 #[.int .i64 ((q + 1 : Nat) : Int), .int .i64 B, .int .i64 C, .int .i64 J]
        have gX : G w (w.alloc (.cells #[.int .i64 ((q + 1 : Nat) : Int), .int .i64 B, .int .i64 C, .int .i64 J] 23)) := (by repeat (first | exact G.refl _ | refine G.alloc ?_ _ | refine G.drewN ?_ _ | refine G.drew ?_ | refine G.trans ?_ (by assumption)))
        go_wp2_with fail
        go_at_call 14
        refine (check_any ((q + 1 : Nat) : Int) B C J _).mono ?_
        rintro e v1 ⟨rfl, g⟩
        rw [HC.out]
        replace hX := hX.g g
        replace gX := gX.trans g
        clear g
        have x0 : v1.cell? ⟨w.heap.size, 0, none⟩ = some (.int .i64 ((q + 1 : Nat) : Int)) := hX.cell 0
        have x1 : v1.cell? ⟨w.heap.size, 1, none⟩ = some (.int .i64 B) := hX.cell 1
        have x2 : v1.cell? ⟨w.heap.size, 2, none⟩ = some (.int .i64 C) := hX.cell 2
        have x3 : v1.cell? ⟨w.heap.size, 3, none⟩ = some (.int .i64 J) := hX.cell 3
        go_wp2_with fail
        go_at_call 24
        refine (longest_any ((q + 1 : Nat) : Int) B C J _).mono ?_
        rintro e v2 ⟨rfl, g⟩
        rw [HC.out, HN.out]
        clear x0 x1 x2 x3
        replace hX := hX.g g
        replace gX := gX.trans g
        clear g
        have x0 : v2.cell? ⟨w.heap.size, 0, none⟩ = some (.int .i64 ((q + 1 : Nat) : Int)) := hX.cell 0
        have x1 : v2.cell? ⟨w.heap.size, 1, none⟩ = some (.int .i64 B) := hX.cell 1
        have x2 : v2.cell? ⟨w.heap.size, 2, none⟩ = some (.int .i64 C) := hX.cell 2
        have x3 : v2.cell? ⟨w.heap.size, 3, none⟩ = some (.int .i64 J) := hX.cell 3
        go_wp2_with fail
        go_at_call 17
        refine (list_any ((q + 1 : Nat) : Int) B C J _).mono ?_
        rintro e v3 ⟨v, rfl, own, g⟩
        rw [HC.out]
        have hR1 := Rd.of_own own
        clear own
        clear x0 x1 x2 x3
        replace hX := hX.g g
        replace gX := gX.trans g
        clear g
        have x0 : v3.cell? ⟨w.heap.size, 0, none⟩ = some (.int .i64 ((q + 1 : Nat) : Int)) := hX.cell 0
        have x1 : v3.cell? ⟨w.heap.size, 1, none⟩ = some (.int .i64 B) := hX.cell 1
        have x2 : v3.cell? ⟨w.heap.size, 2, none⟩ = some (.int .i64 C) := hX.cell 2
        have x3 : v3.cell? ⟨w.heap.size, 3, none⟩ = some (.int .i64 J) := hX.cell 3
        obtain ⟨A, cap, rfl, hcap, hmax, hrd⟩ := hR1
        rw [vI_len, HLN.out] at hcap hrd
        rw [vI_len, HLN.out]
        have HR : Hid (∀ k, k < q + 1 → ∃ b o, A = some ⟨b, o, none⟩ ∧ v3.cell? ⟨b, o + k, none⟩ = some (.int .i64 (wAt B C k))) := Lib.hid (fun k hk => by
          obtain ⟨b, o, e, hc⟩ := hrd (by omega)
          exact ⟨b, o, e, by rw [← HA.out k hk]; exact at_vQ hc (by rw [HLN.out]; exact hk)⟩)
        clear hrd HLN HA
        obtain ⟨b, o, rfl, dl⟩ := HR.out q (by omega)
        have hm0 : (((q + 1 : Nat) : Int) == 0) = false := by simp; omega
        have HM : Hid (∀ i, i < q + 1 → 0 ≤ wAt B C i ∧ wAt B C i ≤ wAt B C q) := Lib.hid (fun i hi => ⟨(wAt_bound HOK.out i).1, mono_ HOK.out (by omega)⟩)
        have hXb := wAt_bound HOK.out q
        obtain ⟨hX0, hX1, hX2', -⟩ := hXb
        generalize wAt B C q = X at *
        go_wp2_with fail
        all_goals (
          go_loopw [9] (fun iv wr => ∃ i : Nat, i ≤ q + 1 ∧ iv = .int .i64 i ∧ G v3 wr) (fun iv _ => q + 1 - (intOf iv).toNat)
          case atStart => exact ⟨0, by omega, rfl, G.refl _⟩
          case round =>
            obtain ⟨i, him, rfl, hg⟩ := hrel
            have hX2 := hX.g hg
            clear x0 x1 x2 x3
            have x3 : wr.cell? ⟨w.heap.size, 3, none⟩ = some (.int .i64 J) := hX2.cell 3
            have x0 : wr.cell? ⟨w.heap.size, 0, none⟩ = some (.int .i64 ((q + 1 : Nat) : Int)) := hX2.cell 0
            by_cases hlt : i < q + 1
            · obtain ⟨b', o', e', d0⟩ := HR.out i hlt
              cases e'
              have d0 := hg.cell (World.block_lt_of_cell? v3 _ d0) d0
              have hil : (i : Int) < (q : Int) + 1 := by omega
              obtain ⟨y0, y1⟩ := HM.out i hlt
              generalize wAt B C i = x at *
              go_wp2_with fail
              go_roundw
              case rel => exact ⟨i + 1, by omega, by go_num, hg⟩
              case measure => simp [intOf]; omega
            · obtain rfl : i = q + 1 := by omega
              have dl := hg.cell (World.block_lt_of_cell? v3 _ dl) dl
              go_wp2_with fail
              have hw0 : IntKind.i64.wrap (q : Int) = (q : Int) := IntWalk.i64_in _ (by omega)
              have hq1 : (q : Int) < (q : Int) + 1 := by omega
              by_cases hj1 : J < 1
              · have hj2 : decide (J < 1) = true := by simpa using hj1
                have hj3 : decide (1 < J) = false := by simp; omega
                have hj4 : decide (1 ≤ J) = false := by simp; omega
                have hj5 : decide (J ≤ 1) = true := by simp; omega
                have hw1 : IntKind.i64.wrap (X + 1) = X + 1 := IntWalk.i64_in _ (by omega)
                have hw2 : IntKind.i64.wrap X = X := IntWalk.i64_in _ (by omega)
                go_region_held3 (fun w' => w'.cell? ⟨w.heap.size, 0, none⟩ = some (.int .i64 ((q : Int) + 1)) ∧ w'.cell? ⟨w.heap.size, 3, none⟩ = some (.int .i64 J) ∧ w'.cell? ⟨b, o + q, none⟩ = some (.int .i64 X)) (first | exact ⟨x0, x3, dl⟩ | exact ⟨(hX2.g g5).cell 0, (hX2.g g5).cell 3, g5.cell (World.block_lt_of_cell? wr _ dl) dl⟩)
                  ((go_at_call 16; refine (works_any _).mono ?_; rintro e v5 ⟨rfl, g5⟩; replace g5 : G wr v5 := (G.refl wr).drew.trans g5))
                all_goals (go_wp2_with fail; go_ret; exact ⟨rfl, gX.trans (hg.trans g5)⟩)
              · have hj2 : decide (J < 1) = false := by simpa using hj1
                obtain rfl : J = 1 := by omega
                clear hj1 hj2
                have hw1 : IntKind.i64.wrap (X + 1) = X + 1 := IntWalk.i64_in _ (by omega)
                have hw2 : IntKind.i64.wrap X = X :=  IntWalk.i64_in _ (by omega)
                go_region_held3 (fun w' => w'.cell? ⟨w.heap.size, 0, none⟩ = some (.int .i64 ((q : Int) + 1)) ∧ w'.cell? ⟨w.heap.size, 3, none⟩ = some (.int .i64 1) ∧ w'.cell? ⟨b, o + q, none⟩ = some (.int .i64 X)) (first | exact ⟨x0, x3, dl⟩ | exact ⟨(hX2.g g5).cell 0, (hX2.g g5).cell 3, g5.cell (World.block_lt_of_cell? wr _ dl) dl⟩)
                  ((go_at_call 16; refine (works_any _).mono ?_; rintro e v5 ⟨rfl, g5⟩; replace g5 : G wr v5 := (G.refl wr).drew.trans g5))
                all_goals (go_wp2_with fail; go_ret; exact ⟨rfl, gX.trans (hg.trans g5)⟩))
      · obtain ⟨Z, hz1, hz2, HN⟩ : ∃ Z, wAt B C q + J ≤ Z + 1 ∧ Z + 1 ≤ wAt B C q + J ∧ Hid (longI ((q + 1 : Nat) : Int) B C J = Z) := ⟨wAt B C q + (J - 1), by omega, by omega, Lib.hid (by unfold longI; rw [if_pos ⟨HOK.out, by omega⟩, show max (J - 1) 0 = J - 1 by omega]; congr 2; omega)⟩
        have hJ : 1 < J := by omega
        go_enter Try.func10, Try.ntmps10
        have hX := Blk.new w 23 #[.int .i64 ((q + 1 : Nat) : Int), .int .i64 B, .int .i64 C, .int .i64 J]
        have gX : G w (w.alloc (.cells #[.int .i64 ((q + 1 : Nat) : Int), .int .i64 B, .int .i64 C, .int .i64 J] 23)) := (by repeat (first | exact G.refl _ | refine G.alloc ?_ _ | refine G.drewN ?_ _ | refine G.drew ?_ | refine G.trans ?_ (by assumption)))
        go_wp2_with fail
        go_at_call 14
        refine (check_any ((q + 1 : Nat) : Int) B C J _).mono ?_
        rintro e v1 ⟨rfl, g⟩
        rw [HC.out]
        replace hX := hX.g g
        replace gX := gX.trans g
        clear g
        have x0 : v1.cell? ⟨w.heap.size, 0, none⟩ = some (.int .i64 ((q + 1 : Nat) : Int)) := hX.cell 0
        have x1 : v1.cell? ⟨w.heap.size, 1, none⟩ = some (.int .i64 B) := hX.cell 1
        have x2 : v1.cell? ⟨w.heap.size, 2, none⟩ = some (.int .i64 C) := hX.cell 2
        have x3 : v1.cell? ⟨w.heap.size, 3, none⟩ = some (.int .i64 J) := hX.cell 3
        go_wp2_with fail
        go_at_call 24
        refine (longest_any ((q + 1 : Nat) : Int) B C J _).mono ?_
        rintro e v2 ⟨rfl, g⟩
        rw [HC.out, HN.out]
        clear x0 x1 x2 x3
        replace hX := hX.g g
        replace gX := gX.trans g
        clear g
        have x0 : v2.cell? ⟨w.heap.size, 0, none⟩ = some (.int .i64 ((q + 1 : Nat) : Int)) := hX.cell 0
        have x1 : v2.cell? ⟨w.heap.size, 1, none⟩ = some (.int .i64 B) := hX.cell 1
        have x2 : v2.cell? ⟨w.heap.size, 2, none⟩ = some (.int .i64 C) := hX.cell 2
        have x3 : v2.cell? ⟨w.heap.size, 3, none⟩ = some (.int .i64 J) := hX.cell 3
        go_wp2_with fail
        go_at_call 17
        refine (list_any ((q + 1 : Nat) : Int) B C J _).mono ?_
        rintro e v3 ⟨v, rfl, own, g⟩
        rw [HC.out]
        have hR1 := Rd.of_own own
        clear own
        clear x0 x1 x2 x3
        replace hX := hX.g g
        replace gX := gX.trans g
        clear g
        have x0 : v3.cell? ⟨w.heap.size, 0, none⟩ = some (.int .i64 ((q + 1 : Nat) : Int)) := hX.cell 0
        have x1 : v3.cell? ⟨w.heap.size, 1, none⟩ = some (.int .i64 B) := hX.cell 1
        have x2 : v3.cell? ⟨w.heap.size, 2, none⟩ = some (.int .i64 C) := hX.cell 2
        have x3 : v3.cell? ⟨w.heap.size, 3, none⟩ = some (.int .i64 J) := hX.cell 3
        obtain ⟨A, cap, rfl, hcap, hmax, hrd⟩ := hR1
        rw [vI_len, HLN.out] at hcap hrd
        rw [vI_len, HLN.out]
        have HR : Hid (∀ k, k < q + 1 → ∃ b o, A = some ⟨b, o, none⟩ ∧ v3.cell? ⟨b, o + k, none⟩ = some (.int .i64 (wAt B C k))) := Lib.hid (fun k hk => by
          obtain ⟨b, o, e, hc⟩ := hrd (by omega)
          exact ⟨b, o, e, by rw [← HA.out k hk]; exact at_vQ hc (by rw [HLN.out]; exact hk)⟩)
        clear hrd HLN HA
        obtain ⟨b, o, rfl, dl⟩ := HR.out q (by omega)
        have hm0 : (((q + 1 : Nat) : Int) == 0) = false := by simp; omega
        have HM : Hid (∀ i, i < q + 1 → 0 ≤ wAt B C i ∧ wAt B C i ≤ wAt B C q) := Lib.hid (fun i hi => ⟨(wAt_bound HOK.out i).1, mono_ HOK.out (by omega)⟩)
        have hXb := wAt_bound HOK.out q
        obtain ⟨hX0, hX1, hX2', -⟩ := hXb
        generalize wAt B C q = X at *
        go_wp2_with fail
        all_goals (
          go_loopw [9] (fun iv wr => ∃ i : Nat, i ≤ q + 1 ∧ iv = .int .i64 i ∧ G v3 wr) (fun iv _ => q + 1 - (intOf iv).toNat)
          case atStart => exact ⟨0, by omega, rfl, G.refl _⟩
          case round =>
            obtain ⟨i, him, rfl, hg⟩ := hrel
            have hX2 := hX.g hg
            clear x0 x1 x2 x3
            have x3 : wr.cell? ⟨w.heap.size, 3, none⟩ = some (.int .i64 J) := hX2.cell 3
            have x0 : wr.cell? ⟨w.heap.size, 0, none⟩ = some (.int .i64 ((q + 1 : Nat) : Int)) := hX2.cell 0
            by_cases hlt : i < q + 1
            · obtain ⟨b', o', e', d0⟩ := HR.out i hlt
              cases e'
              have d0 := hg.cell (World.block_lt_of_cell? v3 _ d0) d0
              have hil : (i : Int) < (q : Int) + 1 := by omega
              obtain ⟨y0, y1⟩ := HM.out i hlt
              generalize wAt B C i = x at *
              go_wp2_with fail
              go_roundw
              case rel => exact ⟨i + 1, by omega, by go_num, hg⟩
              case measure => simp [intOf]; omega
            · obtain rfl : i = q + 1 := by omega
              have dl := hg.cell (World.block_lt_of_cell? v3 _ dl) dl
              go_wp2_with fail
              have hw0 : IntKind.i64.wrap (q : Int) = (q : Int) := IntWalk.i64_in _ (by omega)
              have hj2 : decide (J < 1) = false := by simp; omega
              have hj3 : decide (1 < J) = true := by simp; omega
              have hj4 : decide (1 ≤ J) = true := by simp; omega
              have hj5 : decide (J ≤ 1) = false := by simp; omega
              obtain ⟨Y, hY1, hY2, hw1⟩ : ∃ Y, Y ≤ Z + 1 ∧ Z + 1 ≤ Y ∧ IntKind.i64.wrap (X + J) = Y := ⟨X + J, by omega, by omega, IntWalk.i64_in _ (by omega)⟩
              have hw2 : IntKind.i64.wrap (Y - 1) = Z := by rw [show Y - 1 = Z by omega]; exact IntWalk.i64_in _ (by omega)
              clear hY1 hY2 hz1 hz2 hJ
              try clear hJ1
              try clear hX0
              try clear hX1
              try clear hX2'
              try clear k0 k1
              have hj6 : ¬ J < 1 := by simpa using hj2
              have hq1 : (q : Int) < (q : Int) + 1 := by omega
              refine wp_region_noPanic ?_
              refine wp_region_held_drew (S := fun w' => w'.cell? ⟨w.heap.size, 0, none⟩ = some (.int .i64 ((q : Int) + 1)) ∧ w'.cell? ⟨w.heap.size, 3, none⟩ = some (.int .i64 J) ∧ w'.cell? ⟨b, o + q, none⟩ = some (.int .i64 X)) (by kernel_rfl) ⟨x0, x3, dl⟩ (fun hHeld => ?_)
              refine wpAnyH_take (i := 0) (v := ?_) rfl (by kernel_rfl) (by kernel_rfl) (by kernel_rfl) (fun _ _ _ h => h) (Or.inl ⟨by kernel_rfl, ?_⟩) (by assumption) ?_
              rotate_left
              · intro w hSw
                (try dsimp only at hSw)
                go_simp
                all_goals (with_reducible rfl)
              try simp only [Act.put, List.setIfInBounds_toArray, List.set_cons_zero, List.set_cons_succ]
              refine wpAnyH_take (i := 1) (v := ?_) rfl (by kernel_rfl) (by kernel_rfl) (by kernel_rfl) (fun _ _ _ h => h) (Or.inl ⟨by kernel_rfl, ?_⟩) (by assumption) ?_
              rotate_left
              · intro w hSw
                (try dsimp only at hSw)
                go_simp
                all_goals (with_reducible rfl)
              try simp only [Act.put, List.setIfInBounds_toArray, List.set_cons_zero, List.set_cons_succ]
              refine wpAnyH_take (i := 2) (v := ?_) rfl (by kernel_rfl) (by kernel_rfl) (by kernel_rfl) (fun _ _ _ h => h) (Or.inl ⟨by kernel_rfl, ?_⟩) (by assumption) ?_
              rotate_left
              · intro w hSw
                (try dsimp only at hSw)
                go_simp
                all_goals (with_reducible rfl)
              try simp only [Act.put, List.setIfInBounds_toArray, List.set_cons_zero, List.set_cons_succ]
              refine wpAnyH_take (i := 3) (v := ?_) rfl (by kernel_rfl) (by kernel_rfl) (by kernel_rfl) (fun _ _ _ h => h) (Or.inl ⟨by kernel_rfl, ?_⟩) (by assumption) ?_
              rotate_left
              · intro w hSw
                (try dsimp only at hSw)
                go_simp
                all_goals (with_reducible rfl)
              try simp only [Act.put, List.setIfInBounds_toArray, List.set_cons_zero, List.set_cons_succ]
              refine wpAnyH_take (i := 4) (v := ?_) rfl (by kernel_rfl) (by kernel_rfl) (by kernel_rfl) (fun _ _ _ h => h) (Or.inl ⟨by kernel_rfl, ?_⟩) (by assumption) ?_
              rotate_left
              · intro w hSw
                (try dsimp only at hSw)
                go_simp
                all_goals (with_reducible rfl)
              try simp only [Act.put, List.setIfInBounds_toArray, List.set_cons_zero, List.set_cons_succ]
              refine wpAnyH_take (i := 5) (v := ?_) rfl (by kernel_rfl) (by kernel_rfl) (by kernel_rfl) (fun _ _ _ h => h) (Or.inl ⟨by kernel_rfl, ?_⟩) (by assumption) ?_
              rotate_left
              · intro w hSw
                (try dsimp only at hSw)
                go_simp
                all_goals (with_reducible rfl)
              try simp only [Act.put, List.setIfInBounds_toArray, List.set_cons_zero, List.set_cons_succ]
              refine wpAnyH_take (i := 6) (v := ?_) rfl (by kernel_rfl) (by kernel_rfl) (by kernel_rfl) (fun _ _ _ h => h) (Or.inl ⟨by kernel_rfl, ?_⟩) (by assumption) ?_
              rotate_left
              · intro w hSw
                (try dsimp only at hSw)
                go_simp
                all_goals (with_reducible rfl)
              try simp only [Act.put, List.setIfInBounds_toArray, List.set_cons_zero, List.set_cons_succ]
              refine wpAnyH_take (i := 7) (v := ?_) rfl (by kernel_rfl) (by kernel_rfl) (by kernel_rfl) (fun _ _ _ h => h) (Or.inl ⟨by kernel_rfl, ?_⟩) (by assumption) ?_
              rotate_left
              · intro w hSw
                (try dsimp only at hSw)
                go_simp
                all_goals (with_reducible rfl)
              try simp only [Act.put, List.setIfInBounds_toArray, List.set_cons_zero, List.set_cons_succ]
              refine wpAnyH_take (i := 8) (v := ?_) rfl (by kernel_rfl) (by kernel_rfl) (by kernel_rfl) (fun _ _ _ h => h) (Or.inl ⟨by kernel_rfl, ?_⟩) (by assumption) ?_
              rotate_left
              · intro w hSw
                (try dsimp only at hSw)
                go_simp
                all_goals (with_reducible rfl)
              try simp only [Act.put, List.setIfInBounds_toArray, List.set_cons_zero, List.set_cons_succ]
              refine wpAnyH_take (i := 9) (v := ?_) rfl (by kernel_rfl) (by kernel_rfl) (by kernel_rfl) (fun _ _ _ h => h) (Or.inl ⟨by kernel_rfl, ?_⟩) (by assumption) ?_
              rotate_left
              · intro w hSw
                (try dsimp only at hSw)
                go_simp
                all_goals (with_reducible rfl)
              try simp only [Act.put, List.setIfInBounds_toArray, List.set_cons_zero, List.set_cons_succ]
              refine wpAnyH_take (i := 10) (v := ?_) rfl (by kernel_rfl) (by kernel_rfl) (by kernel_rfl) (fun _ _ _ h => h) (Or.inl ⟨by kernel_rfl, ?_⟩) (by assumption) ?_
              rotate_left
              · intro w hSw
                (try dsimp only at hSw)
                go_simp
                all_goals (with_reducible rfl)
              try simp only [Act.put, List.setIfInBounds_toArray, List.set_cons_zero, List.set_cons_succ]
              refine wpAnyH_take (i := 11) (v := ?_) rfl (by kernel_rfl) (by kernel_rfl) (by kernel_rfl) (fun _ _ _ h => h) (Or.inl ⟨by kernel_rfl, ?_⟩) (by assumption) ?_
              rotate_left
              · intro w hSw
                (try dsimp only at hSw)
                go_simp
                all_goals (with_reducible rfl)
              try simp only [Act.put, List.setIfInBounds_toArray, List.set_cons_zero, List.set_cons_succ]
              refine wpAnyH_take (i := 12) (v := ?_) rfl (by kernel_rfl) (by kernel_rfl) (by kernel_rfl) (fun _ _ _ h => h) (Or.inl ⟨by kernel_rfl, ?_⟩) (by assumption) ?_
              rotate_left
              · intro w hSw
                (try dsimp only at hSw)
                go_simp
                all_goals (with_reducible rfl)
              try simp only [Act.put, List.setIfInBounds_toArray, List.set_cons_zero, List.set_cons_succ]
              refine wpAnyH_take (i := 13) (v := ?_) rfl (by kernel_rfl) (by kernel_rfl) (by kernel_rfl) (fun _ _ _ h => h) (Or.inl ⟨by kernel_rfl, ?_⟩) (by assumption) ?_
              rotate_left
              · intro w hSw
                (try dsimp only at hSw)
                go_simp
                all_goals (with_reducible rfl)
              try simp only [Act.put, List.setIfInBounds_toArray, List.set_cons_zero, List.set_cons_succ]
              refine wpAnyH_take (i := 14) (v := ?_) rfl (by kernel_rfl) (by kernel_rfl) (by kernel_rfl) (fun _ _ _ h => h) (Or.inl ⟨by kernel_rfl, ?_⟩) (by assumption) ?_
              rotate_left
              · intro w hSw
                (try dsimp only at hSw)
                go_simp
                all_goals (with_reducible rfl)
              try simp only [Act.put, List.setIfInBounds_toArray, List.set_cons_zero, List.set_cons_succ]
              refine wpAnyH_take (i := 15) (v := ?_) rfl (by kernel_rfl) (by kernel_rfl) (by kernel_rfl) (fun _ _ _ h => h) (Or.inl ⟨by kernel_rfl, ?_⟩) (by assumption) ?_
              rotate_left
              · intro w hSw
                (try dsimp only at hSw)
                go_simp
                all_goals (with_reducible rfl)
              try simp only [Act.put, List.setIfInBounds_toArray, List.set_cons_zero, List.set_cons_succ]
              refine wpAnyH_take (i := 16) (v := ?_) rfl (by kernel_rfl) (by kernel_rfl) (by kernel_rfl) (fun _ _ _ h => h) (Or.inl ⟨by kernel_rfl, ?_⟩) (by assumption) ?_
              rotate_left
              · intro w hSw
                (try dsimp only at hSw)
                go_simp
                all_goals (with_reducible rfl)
              try simp only [Act.put, List.setIfInBounds_toArray, List.set_cons_zero, List.set_cons_succ]
              refine wpAnyH_take (i := 17) (v := ?_) rfl (by kernel_rfl) (by kernel_rfl) (by kernel_rfl) (fun _ _ _ h => h) (Or.inl ⟨by kernel_rfl, ?_⟩) (by assumption) ?_
              rotate_left
              · intro w hSw
                (try dsimp only at hSw)
                go_simp
                all_goals (with_reducible rfl)
              try simp only [Act.put, List.setIfInBounds_toArray, List.set_cons_zero, List.set_cons_succ]
              refine wpAnyH_take (i := 18) (v := ?_) rfl (by kernel_rfl) (by kernel_rfl) (by kernel_rfl) (fun _ _ _ h => h) (Or.inl ⟨by kernel_rfl, ?_⟩) (by assumption) ?_
              rotate_left
              · intro w hSw
                (try dsimp only at hSw)
                go_simp
                all_goals (with_reducible rfl)
              try simp only [Act.put, List.setIfInBounds_toArray, List.set_cons_zero, List.set_cons_succ]
              refine wpAnyH_take (i := 19) (v := ?_) rfl (by kernel_rfl) (by kernel_rfl) (by kernel_rfl) (fun _ _ _ h => h) (Or.inl ⟨by kernel_rfl, ?_⟩) (by assumption) ?_
              rotate_left
              · intro w hSw
                (try dsimp only at hSw)
                go_simp
                all_goals (with_reducible rfl)
              try simp only [Act.put, List.setIfInBounds_toArray, List.set_cons_zero, List.set_cons_succ]
              refine wpAnyH_take (i := 20) (v := ?_) rfl (by kernel_rfl) (by kernel_rfl) (by kernel_rfl) (fun _ _ _ h => h) (Or.inl ⟨by kernel_rfl, ?_⟩) (by assumption) ?_
              rotate_left
              · intro w hSw
                (try dsimp only at hSw)
                go_simp
                all_goals (with_reducible rfl)
              try simp only [Act.put, List.setIfInBounds_toArray, List.set_cons_zero, List.set_cons_succ]
              refine wpAnyH_ready (rs := [21]) (by kernel_rfl) (by simp) ?_
              refine AllReadyH.cons rfl (fun K hK => ?_) AllReadyH.nil
              go_simp
              go_at_call 16
              refine (works_any _).mono ?_
              rintro e v5 ⟨rfl, g5⟩
              replace g5 : G wr v5 := (G.refl wr).drew.trans g5
              go_wp2_with fail
              refine hK.out _ _ ⟨(hX2.g g5).cell 0, (hX2.g g5).cell 3, g5.cell (World.block_lt_of_cell? wr _ dl) dl⟩ (fun hHeld => ?_)
              clear hK K
              try simp only [Act.put, List.setIfInBounds_toArray, List.set_cons_zero, List.set_cons_succ]
              refine wpAnyH_take (i := 22) (v := ?_) rfl (by kernel_rfl) (by kernel_rfl) (by kernel_rfl) (fun _ _ _ h => h) (Or.inl ⟨by kernel_rfl, ?_⟩) (by assumption) ?_
              rotate_left
              · intro w hSw
                (try dsimp only at hSw)
                go_simp
                all_goals (with_reducible rfl)
              try simp only [Act.put, List.setIfInBounds_toArray, List.set_cons_zero, List.set_cons_succ]
              refine wpAnyH_take (i := 23) (v := ?_) rfl (by kernel_rfl) (by kernel_rfl) (by kernel_rfl) (fun _ _ _ h => h) (Or.inl ⟨by kernel_rfl, ?_⟩) (by assumption) ?_
              rotate_left
              · intro w hSw
                (try dsimp only at hSw)
                go_simp
                all_goals (with_reducible rfl)
              try simp only [Act.put, List.setIfInBounds_toArray, List.set_cons_zero, List.set_cons_succ]
              refine wpAnyH_done (by kernel_rfl) ?_ _
              refine NoPanic.normal ?_
              simp only [Act.put, List.getElem_toArray, List.getElem_cons_succ, List.getElem_cons_zero, List.setIfInBounds_toArray, List.set_cons_zero, List.set_cons_succ]
              go_wp2_with fail
              go_ret
              exact ⟨rfl, gX.trans (hg.trans g5)⟩)
  · have HC : Hid (chkE M B C J = 16) := Lib.hid (if_neg hok)
    have HL : Hid (waitsL M B C J = []) := Lib.hid (if_neg hok)
    clear hok
    go_enter Try.func10, Try.ntmps10
    have hX := Blk.new w 23 #[.int .i64 M, .int .i64 B, .int .i64 C, .int .i64 J]
    have gX : G w (w.alloc (.cells #[.int .i64 M, .int .i64 B, .int .i64 C, .int .i64 J] 23)) := (by repeat (first | exact G.refl _ | refine G.alloc ?_ _ | refine G.drewN ?_ _ | refine G.drew ?_ | refine G.trans ?_ (by assumption)))
    go_wp2_with fail
    go_at_call 14
    refine (check_any M B C J _).mono ?_
    rintro e v1 ⟨rfl, g⟩
    rw [HC.out]
    replace hX := hX.g g
    replace gX := gX.trans g
    clear g
    have x0 : v1.cell? ⟨w.heap.size, 0, none⟩ = some (.int .i64 M) := hX.cell 0
    have x1 : v1.cell? ⟨w.heap.size, 1, none⟩ = some (.int .i64 B) := hX.cell 1
    have x2 : v1.cell? ⟨w.heap.size, 2, none⟩ = some (.int .i64 C) := hX.cell 2
    have x3 : v1.cell? ⟨w.heap.size, 3, none⟩ = some (.int .i64 J) := hX.cell 3
    go_wp2_with fail
    go_at_call 16
    refine (works_any _).mono ?_
    rintro e v3 ⟨rfl, g⟩
    go_wp2_with fail
    go_ret
    exact ⟨rfl, gX.trans g⟩
set_option maxRecDepth 4000 in
set_option maxHeartbeats 2000000 in
theorem contract (H : Type) (enc : TypeId × Value → H) (W : World) (base : Nat) (args : Array Value) (ds gs : List (DataW H)) (before : List MemPlace)
    (hval : ∀ (j : Nat) t v, Try.f10.params[j]? = some t → args[j]? = some v → Value.okWide Try.prog W .any base t v)
    (hW : DataW.Whole enc Try.prog Try.f10.params.toList Rows.backoffLongestSpec.vars false W args.toList ds gs before) :
    Calls Try.prog 10 args W fun e W' => ∃ v, e = .returned v ∧ Rows.backoffLongestSpec.post enc Try.prog Try.f10 false true false false W args v W' := by
  have hW' := hW
  obtain ⟨p, q, hA0, hV, rfl, hfz, hnd⟩ := hW
  have hA : DataW.TrodAll enc Try.prog W 0 (fun _ => true) true Try.f10.params.toList args.toList ds p := hA0
  rw [Try.params10] at hA hval
  obtain ⟨v0, vs0, d0, ds0, p0, q0, hargs, rfl, rfl, h0, r0⟩ := trodAll_cons hA
  obtain ⟨v1, vs1, d1, ds1, p1, q1, rfl, rfl, rfl, h1, r1⟩ := trodAll_cons r0
  obtain ⟨rfl, rfl, rfl⟩ := trodAll_nil r1
  obtain rfl : args = #[v0, v1] := by first | exact Array.ext' hargs | (cases args; simp_all)
  obtain ⟨a0, b0, c0, e0, rfl⟩ := open_retry (hval 0 23 v0 rfl rfl) h0
  obtain ⟨a1, rfl, rfl, rfl, w1⟩ := open_int Try.underlying2 (hval 1 2 v1 rfl rfl) h1
  simp [Lit.wf, IntKind.min, IntKind.max, IntKind.bits, IntKind.signed] at w1
  refine (walk (w := W) a0 b0 c0 e0 a1 (by omega) (by omega)).mono fun e W' ⟨he, hg⟩ => ?_
  subst he
  exact ⟨_, rfl, law_post laidOut_ (by
    intro t ht
    rw [Try.params10] at ht
    simp at ht
    rcases ht with rfl | rfl <;> exact ⟨by kernel_rfl, by decide +kernel⟩) hW' rfl rfl (by kernel_rfl) Try.underlying4 hg⟩
set_option maxRecDepth 100000 in
theorem lifted (os : Os) (started : os.Started) (H : Type) (enc : TypeId × Value → H) :
    ReturnsInHanded {} Try.checked os 10 .any (Rows.backoffLongestSpec.pre6 enc Try.prog Try.f10 Rows.backoffLongestRow.domain false) (Rows.backoffLongestSpec.post enc Try.prog Try.f10 false true false false) := by
  refine returnsInHanded_of_change (C := Try.checked) own_ started (by kernel_rfl) Try.func10
    (ChangeSpec.witness6 (enc := enc) (C := Try.checked) false ⟨#[], #[.agg #[.int .i64 0, .int .i64 0, .int .i64 0, .int .i64 0], .int .i64 0], []⟩ 8 (by kernel_rfl) (by kernel_rfl) (by kernel_rfl) (by kernel_rfl)) ?_
  intro W base args ds gs before hval hW _ _
  exact contract H enc W base args ds gs before hval hW
theorem said : Rows.BackoffLongestSaid :=
  OpenClaim.holds_of_wide 10 Try.f10 rfl rfl rfl rfl rfl rfl rfl ⟨rfl, rfl, rfl, rfl, rfl⟩ rfl rfl rfl rfl rfl (by kernel_rfl) Try.func10 (by kernel_rfl)
    (of_decide_eq_true (by kernel_rfl)) (by unfold Func.isWrapper; first | (rw [if_pos (by decide +kernel)]; kernel_rfl) | (rw [if_neg (by decide +kernel)]; exact ⟨rfl, rfl⟩))
    (fun os started H enc _ => lifted os started H enc)
#print axioms said
end Go.Proofs.Ytabgddiecddbhaa.lawBackoffLongest
