/-
  The laws' own functions of part 30: five, same, works.
-/
import Derived.Test.YtabgddiecddbhaaBkR
set_option linter.unusedVariables false
set_option linter.unusedSimpArgs false
namespace Go.Proofs.Ytabgddiecddbhaa
open Go.RowKit

set_option maxHeartbeats 400000 in
theorem five_any (w : World) :
    Calls Try.prog 29 #[] w fun e w' => e = .returned (.agg #[.int .i64 5, .int .i64 10, .int .i64 60, .int .i64 5]) ∧ G w w' := by
  go_enter Try.func29, Try.ntmps29
  go_wp2_with fail
  refine bodyPost_ret (v := .agg #[.int .i64 5, .int .i64 10, .int .i64 60, .int .i64 5]) (by simp [results, Try.results29, go_sem]) rfl ⟨rfl, (by repeat (first | exact G.refl _ | refine G.alloc ?_ _ | refine G.drewN ?_ _ | refine G.drew ?_ | refine G.trans ?_ (by assumption)))⟩
set_option maxHeartbeats 2000000 in
theorem same_yes (L : List Int) (hl : L.length ≤ 1000) (v1 v2 : Value) (w : World) (h1 : Rd w v1 (vI .i64 L)) (h2 : Rd w v2 (vI .i64 L)) :
    Calls Try.prog 21 #[v1, v2] w fun e w' => e = .returned (.bool true) ∧ G w w' := by
  obtain ⟨A1, d1, rfl, hd1, hm1, h1⟩ := h1
  obtain ⟨A2, d2, rfl, hd2, hm2, h2⟩ := h2
  rw [vI_len] at *
  have H1 := Lib.hid h1
  have H2 := Lib.hid h2
  clear h1 h2
  go_enter Try.func21, Try.ntmps21
  go_wp2_with fail
  go_loopw [5] (fun iv wr => ∃ k : Nat, k ≤ L.length ∧ iv = .int .i64 k ∧ G w wr) (fun iv _ => L.length - (intOf iv).toNat)
  case atStart => exact ⟨0, by omega, rfl, G.refl _⟩
  case round =>
    obtain ⟨k, hk, rfl, hg⟩ := hrel
    by_cases hlt : k < L.length
    · obtain ⟨b1, o1, rfl, c1⟩ := H1.out (by omega)
      obtain ⟨b2, o2, rfl, c2⟩ := H2.out (by omega)
      have d1 := at_vQ c1 hlt
      have d2 := at_vQ c2 hlt
      have f1 := hg.cell (World.block_lt_of_cell? w _ d1) d1
      have f2 := hg.cell (World.block_lt_of_cell? w _ d2) d2
      clear c1 c2 d1 d2
      have hkl : (k : Int) < L.length := by omega
      go_wp2_with fail
      go_quiet (fail)
      go_wp2_with fail
      go_roundw
      case rel => exact ⟨k + 1, by omega, by go_num, hg.drewN _⟩
      case measure => simp [intOf]; omega
    · obtain rfl : k = L.length := by omega
      go_wp2_with fail
      go_ret
      exact ⟨rfl, hg⟩
set_option maxHeartbeats 4000000 in
theorem works_any (w : World) :
    Calls Try.prog 16 #[] w fun e w' => e = .returned (.bool true) ∧ G w w' := by
  go_enter Try.func16, Try.ntmps16
  go_wp2_with fail
  refine (five_any _).mono ?_
  rintro e w1 ⟨rfl, g1⟩
  go_wp2_with fail
  refine (list_any 5 10 60 5 _).mono ?_
  rintro e w2 ⟨v, rfl, own, g2⟩
  rw [show waitsL 5 10 60 5 = [10, 20, 40, 60, 60] by decide +kernel] at own
  rw [show chkE 5 10 60 5 = 0 by decide +kernel]
  have hRd := Rd.of_own own
  have g12 := g1.trans g2
  clear own g1 g2
  go_wp2_with fail
  refine (five_any _).mono ?_
  rintro e w3 ⟨rfl, g3⟩
  go_wp2_with fail
  refine (total_any 5 10 60 5 _).mono ?_
  rintro e w4 ⟨rfl, g4⟩
  rw [show totI 5 10 60 5 = 190 by decide +kernel, show chkE 5 10 60 5 = 0 by decide +kernel]
  go_wp2_with fail
  refine (five_any _).mono ?_
  rintro e w5 ⟨rfl, g5⟩
  go_wp2_with fail
  refine (reaches_any 5 10 60 5 _).mono ?_
  rintro e w6 ⟨rfl, g6⟩
  rw [show reachI 5 10 60 5 = 4 by decide +kernel, show reachB 5 10 60 5 = true by decide +kernel, show chkE 5 10 60 5 = 0 by decide +kernel]
  have g36 := ((g3.trans g4).trans g5).trans g6
  clear g3 g4 g5 g6
  go_wp2_with fail
  refine (five_any _).mono ?_
  rintro e w7 ⟨rfl, g7⟩
  go_wp2_with fail
  refine (within_any 5 10 60 5 69 _).mono ?_
  rintro e w8 ⟨rfl, g8⟩
  rw [show withI 5 10 60 5 69 = 2 by decide +kernel, show withE 5 10 60 5 69 = 0 by decide +kernel]
  go_wp2_with fail
  refine (five_any _).mono ?_
  rintro e w9 ⟨rfl, g9⟩
  go_wp2_with fail
  refine (longest_any 5 10 60 5 _).mono ?_
  rintro e w10 ⟨rfl, g10⟩
  rw [show longI 5 10 60 5 = 64 by decide +kernel, show chkE 5 10 60 5 = 0 by decide +kernel]
  go_wp2_with fail
  refine (five_any _).mono ?_
  rintro e w11 ⟨rfl, g11⟩
  go_wp2_with fail
  refine (wait_any 5 10 60 5 6 _).mono ?_
  rintro e w12 ⟨rfl, g12'⟩
  rw [show waitE 5 10 60 5 6 = 3 by decide +kernel]
  have g612 := ((((g7.trans g8).trans g9).trans g10).trans g11).trans g12'
  have gall := g12.trans (g36.trans g612)
  have hR12 := (hRd.g g36).g g612
  clear g7 g8 g9 g10 g11 g12' g612 g36 hRd g12
  go_wp2_with fail
  have hB := Blk.new w12 2 #[.int .i64 10, .int .i64 20, .int .i64 40, .int .i64 60, .int .i64 60]
  refine (same_yes [10, 20, 40, 60, 60] (by decide) v _ _ (hR12.g ((G.refl w12).alloc _)) (Rd.ints (l := [10, 20, 40, 60, 60]) hB (by simp))).mono ?_
  rintro e w13 ⟨rfl, g13⟩
  go_wp2_with fail
  refine (check_any 0 0 0 1 _).mono ?_
  rintro e w14 ⟨rfl, g14⟩
  rw [show chkE 0 0 0 1 = 16 by decide +kernel]
  go_wp2_with fail
  go_ret
  exact ⟨rfl, gall.trans ((((G.refl w12).alloc _).trans g13).trans g14)⟩
end Go.Proofs.Ytabgddiecddbhaa
