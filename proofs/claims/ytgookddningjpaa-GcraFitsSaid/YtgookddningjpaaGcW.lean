/-
  The examples of the chapter hold: works returns true.
-/
import Derived.Test.YtgookddningjpaaGcF
import Derived.Deep.RegionHeld3
set_option linter.unusedVariables false
set_option linter.unusedSimpArgs false
namespace Go.Proofs.Ytgookddningjpaa
open Go.RowKit

/-- The world behind a name, with what is known of it. -/
theorem wp_gen {P : Program} {c : Code} {Q : Exit → Act → World → Prop} {a : Act} {w : World} (I : World → Prop) (hI : I w) (h : ∀ w', I w' → c.wp P Q a w') : c.wp P Q a w := h _ hI
def arr : Array Value := #[.int .i64 100, .int .i64 0, .int .i64 100, .int .i64 0, .int .i64 100, .int .i64 0, .int .i64 100, .int .i64 9, .int .i64 104, .int .i64 9, .int .i64 105, .int .i64 0, .int .i64 104, .int .i64 8]
/-- a round's world: the list, the round's box, the limiter -/
def RoundW (w : World) (kL kA kX : Nat) (now e : Int) (som : Bool) (tat last : Int) (w' : World) : Prop :=
  G w w' ∧ Blk w' kA 71 arr ∧ Blk w' kX 71 #[.int .i64 now, .int .i64 e] ∧ Lim w' kL som tat last 5 10 ∧ w.heap.size ≤ kL ∧ kL < kA ∧ kA < kX

set_option maxHeartbeats 8000000 in
theorem works_any (w : World) :
    Calls Try.prog 19 #[] w fun e w' => e = .returned (.bool true) ∧ G w w' := by
  go_enter Try.func19, Try.ntmps19
  go_wp2_with fail
  refine (new_yes 5 10 (by decide) _).mono ?_
  rintro e w1 ⟨kL, rfl, hkL, g1, hL⟩
  go_wp2_with fail
  refine wp_loop_rounds 8 ?_
  rw [rounds_succ]
  go_wp2_with fail
  have hLA := hL.lt
  have hA : Blk (w1.alloc (Obj.cells arr 71)) w1.heap.size 71 arr := Blk.new _ _ _
  have hs : (w1.alloc (Obj.cells arr 71)).heap.size = w1.heap.size + 1 := by simp
  have hX := Blk.new (w1.alloc (Obj.cells arr 71)) 71 #[.int .i64 100, .int .i64 0]
  rw [hs] at hX
  refine wp_gen (RoundW w kL w1.heap.size (w1.heap.size + 1) 100 0 false 0 0) ⟨(by repeat (first | exact G.refl _ | refine G.alloc ?_ _ | refine G.drewN ?_ _ | refine G.drew ?_ | refine G.trans ?_ (by assumption))), hA.alloc _, hX, (hL.alloc _).alloc _, hkL, hLA, by omega⟩ ?_
  generalize w1.heap.size + 1 = kX0
  generalize w1.heap.size = kA
  clear hA hX g1 hL hLA hkL hs w1
  -- round 0
  rintro w1 ⟨g1, hA, hX, hL, hkL, hLA, hAX⟩
  have c0 : w1.cell? ⟨kX0, 0, none⟩ = some (.int .i64 100) := hX.cell 0
  have c1 : w1.cell? ⟨kX0, 1, none⟩ = some (.int .i64 0) := hX.cell 1
  go_region_held3 (fun w' => w'.cell? ⟨kX0, 0, none⟩ = some (.int .i64 100) ∧ w'.cell? ⟨kX0, 1, none⟩ = some (.int .i64 0)) (first | exact ⟨c0, c1⟩ | exact ⟨(hX.grown g2 (by simp; omega)).cell 0, (hX.grown g2 (by simp; omega)).cell 1⟩)
    ((go_at_call 21; refine (take_ok kL false 0 0 5 10 100 ⟨by decide, by decide, by decide, by decide⟩ (by decide) _ (by exact hL)).mono ?_; rintro e w2 ⟨rfl, g2, hL2⟩; replace g2 : w1.grownBy w2 (some kL) := grown_trans (grown_drew (grown_of_G (G.refl _) _)) g2))
  rename_i hh; clear hh
  have hL3 : Lim w2 kL true 105 100 5 10 := hL2
  have hA3 : Blk w2 kA 71 arr := hA.grown g2 (by simp; omega)
  have g3 : G w w2 := g1.own g2 hkL
  clear g1 hA hX hL c0 c1 g2 hL2
  have d0 : w2.cell? ⟨kA, 2, none⟩ = some (.int .i64 100) := hA3.cell 2
  have d1 : w2.cell? ⟨kA, 3, none⟩ = some (.int .i64 0) := hA3.cell 3
  go_wp2_with fail
  rw [rounds_succ]
  go_wp2_with fail
  have hAX2 := hA3.lt
  refine wp_gen (RoundW w kL kA w2.heap.size 100 0 true 105 100) ⟨g3.alloc _, hA3.alloc _, Blk.new _ _ _, hL3.alloc _, hkL, hLA, hAX2⟩ ?_
  clear hAX hA3 hL3 g3 d0 d1

  generalize w2.heap.size = kX1
  clear hAX2 w2
  -- round 1
  rintro w1 ⟨g1, hA, hX, hL, hkL, hLA, hAX⟩
  have c0 : w1.cell? ⟨kX1, 0, none⟩ = some (.int .i64 100) := hX.cell 0
  have c1 : w1.cell? ⟨kX1, 1, none⟩ = some (.int .i64 0) := hX.cell 1
  go_region_held3 (fun w' => w'.cell? ⟨kX1, 0, none⟩ = some (.int .i64 100) ∧ w'.cell? ⟨kX1, 1, none⟩ = some (.int .i64 0)) (first | exact ⟨c0, c1⟩ | exact ⟨(hX.grown g2 (by simp; omega)).cell 0, (hX.grown g2 (by simp; omega)).cell 1⟩)
    ((go_at_call 21; refine (take_ok kL true 105 100 5 10 100 ⟨by decide, by decide, by decide, by decide⟩ (by decide) _ (by exact hL)).mono ?_; rintro e w2 ⟨rfl, g2, hL2⟩; replace g2 : w1.grownBy w2 (some kL) := grown_trans (grown_drew (grown_of_G (G.refl _) _)) g2))
  rename_i hh; clear hh
  have hL3 : Lim w2 kL true 110 100 5 10 := hL2
  have hA3 : Blk w2 kA 71 arr := hA.grown g2 (by simp; omega)
  have g3 : G w w2 := g1.own g2 hkL
  clear g1 hA hX hL c0 c1 g2 hL2
  have d0 : w2.cell? ⟨kA, 4, none⟩ = some (.int .i64 100) := hA3.cell 4
  have d1 : w2.cell? ⟨kA, 5, none⟩ = some (.int .i64 0) := hA3.cell 5
  go_wp2_with fail
  rw [rounds_succ]
  go_wp2_with fail
  have hAX2 := hA3.lt
  refine wp_gen (RoundW w kL kA w2.heap.size 100 0 true 110 100) ⟨g3.alloc _, hA3.alloc _, Blk.new _ _ _, hL3.alloc _, hkL, hLA, hAX2⟩ ?_
  clear hAX hA3 hL3 g3 d0 d1

  generalize w2.heap.size = kX2
  clear hAX2 w2
  -- round 2
  rintro w1 ⟨g1, hA, hX, hL, hkL, hLA, hAX⟩
  have c0 : w1.cell? ⟨kX2, 0, none⟩ = some (.int .i64 100) := hX.cell 0
  have c1 : w1.cell? ⟨kX2, 1, none⟩ = some (.int .i64 0) := hX.cell 1
  go_region_held3 (fun w' => w'.cell? ⟨kX2, 0, none⟩ = some (.int .i64 100) ∧ w'.cell? ⟨kX2, 1, none⟩ = some (.int .i64 0)) (first | exact ⟨c0, c1⟩ | exact ⟨(hX.grown g2 (by simp; omega)).cell 0, (hX.grown g2 (by simp; omega)).cell 1⟩)
    ((go_at_call 21; refine (take_ok kL true 110 100 5 10 100 ⟨by decide, by decide, by decide, by decide⟩ (by decide) _ (by exact hL)).mono ?_; rintro e w2 ⟨rfl, g2, hL2⟩; replace g2 : w1.grownBy w2 (some kL) := grown_trans (grown_drew (grown_of_G (G.refl _) _)) g2))
  rename_i hh; clear hh
  have hL3 : Lim w2 kL true 115 100 5 10 := hL2
  have hA3 : Blk w2 kA 71 arr := hA.grown g2 (by simp; omega)
  have g3 : G w w2 := g1.own g2 hkL
  clear g1 hA hX hL c0 c1 g2 hL2
  have d0 : w2.cell? ⟨kA, 6, none⟩ = some (.int .i64 100) := hA3.cell 6
  have d1 : w2.cell? ⟨kA, 7, none⟩ = some (.int .i64 9) := hA3.cell 7
  go_wp2_with fail
  rw [rounds_succ]
  go_wp2_with fail
  have hAX2 := hA3.lt
  refine wp_gen (RoundW w kL kA w2.heap.size 100 9 true 115 100) ⟨g3.alloc _, hA3.alloc _, Blk.new _ _ _, hL3.alloc _, hkL, hLA, hAX2⟩ ?_
  clear hAX hA3 hL3 g3 d0 d1

  generalize w2.heap.size = kX3
  clear hAX2 w2
  -- round 3
  rintro w1 ⟨g1, hA, hX, hL, hkL, hLA, hAX⟩
  have c0 : w1.cell? ⟨kX3, 0, none⟩ = some (.int .i64 100) := hX.cell 0
  have c1 : w1.cell? ⟨kX3, 1, none⟩ = some (.int .i64 9) := hX.cell 1
  go_region_held3 (fun w' => w'.cell? ⟨kX3, 0, none⟩ = some (.int .i64 100) ∧ w'.cell? ⟨kX3, 1, none⟩ = some (.int .i64 9)) (first | exact ⟨c0, c1⟩ | exact ⟨(hX.g g2).cell 0, (hX.g g2).cell 1⟩)
    ((go_at_call 21; refine (take_no kL true 115 100 5 10 100 ⟨by decide, by decide, by decide, by decide⟩ (by decide) _ (by exact hL)).mono ?_; rintro e w2 ⟨rfl, g2⟩; replace g2 : G w1 w2 := (G.refl w1).drew.trans g2))
  have hE : checkE true 115 100 5 10 100 = 9 := by decide
  rw [hE]
  rename_i hh; clear hh
  have hL3 : Lim w2 kL true 115 100 5 10 := hL.g g2
  have hA3 : Blk w2 kA 71 arr := hA.g g2
  have g3 : G w w2 := g1.trans g2
  clear g1 hA hX hL c0 c1 g2 hE
  have d0 : w2.cell? ⟨kA, 8, none⟩ = some (.int .i64 104) := hA3.cell 8
  have d1 : w2.cell? ⟨kA, 9, none⟩ = some (.int .i64 9) := hA3.cell 9
  go_wp2_with fail
  rw [rounds_succ]
  go_wp2_with fail
  have hAX2 := hA3.lt
  refine wp_gen (RoundW w kL kA w2.heap.size 104 9 true 115 100) ⟨g3.alloc _, hA3.alloc _, Blk.new _ _ _, hL3.alloc _, hkL, hLA, hAX2⟩ ?_
  clear hAX hA3 hL3 g3 d0 d1

  generalize w2.heap.size = kX4
  clear hAX2 w2
  -- round 4
  rintro w1 ⟨g1, hA, hX, hL, hkL, hLA, hAX⟩
  have c0 : w1.cell? ⟨kX4, 0, none⟩ = some (.int .i64 104) := hX.cell 0
  have c1 : w1.cell? ⟨kX4, 1, none⟩ = some (.int .i64 9) := hX.cell 1
  go_region_held3 (fun w' => w'.cell? ⟨kX4, 0, none⟩ = some (.int .i64 104) ∧ w'.cell? ⟨kX4, 1, none⟩ = some (.int .i64 9)) (first | exact ⟨c0, c1⟩ | exact ⟨(hX.g g2).cell 0, (hX.g g2).cell 1⟩)
    ((go_at_call 21; refine (take_no kL true 115 100 5 10 104 ⟨by decide, by decide, by decide, by decide⟩ (by decide) _ (by exact hL)).mono ?_; rintro e w2 ⟨rfl, g2⟩; replace g2 : G w1 w2 := (G.refl w1).drew.trans g2))
  have hE : checkE true 115 100 5 10 104 = 9 := by decide
  rw [hE]
  rename_i hh; clear hh
  have hL3 : Lim w2 kL true 115 100 5 10 := hL.g g2
  have hA3 : Blk w2 kA 71 arr := hA.g g2
  have g3 : G w w2 := g1.trans g2
  clear g1 hA hX hL c0 c1 g2 hE
  have d0 : w2.cell? ⟨kA, 10, none⟩ = some (.int .i64 105) := hA3.cell 10
  have d1 : w2.cell? ⟨kA, 11, none⟩ = some (.int .i64 0) := hA3.cell 11
  go_wp2_with fail
  rw [rounds_succ]
  go_wp2_with fail
  have hAX2 := hA3.lt
  refine wp_gen (RoundW w kL kA w2.heap.size 105 0 true 115 100) ⟨g3.alloc _, hA3.alloc _, Blk.new _ _ _, hL3.alloc _, hkL, hLA, hAX2⟩ ?_
  clear hAX hA3 hL3 g3 d0 d1

  generalize w2.heap.size = kX5
  clear hAX2 w2
  -- round 5
  rintro w1 ⟨g1, hA, hX, hL, hkL, hLA, hAX⟩
  have c0 : w1.cell? ⟨kX5, 0, none⟩ = some (.int .i64 105) := hX.cell 0
  have c1 : w1.cell? ⟨kX5, 1, none⟩ = some (.int .i64 0) := hX.cell 1
  go_region_held3 (fun w' => w'.cell? ⟨kX5, 0, none⟩ = some (.int .i64 105) ∧ w'.cell? ⟨kX5, 1, none⟩ = some (.int .i64 0)) (first | exact ⟨c0, c1⟩ | exact ⟨(hX.grown g2 (by simp; omega)).cell 0, (hX.grown g2 (by simp; omega)).cell 1⟩)
    ((go_at_call 21; refine (take_ok kL true 115 100 5 10 105 ⟨by decide, by decide, by decide, by decide⟩ (by decide) _ (by exact hL)).mono ?_; rintro e w2 ⟨rfl, g2, hL2⟩; replace g2 : w1.grownBy w2 (some kL) := grown_trans (grown_drew (grown_of_G (G.refl _) _)) g2))
  rename_i hh; clear hh
  have hL3 : Lim w2 kL true 120 105 5 10 := hL2
  have hA3 : Blk w2 kA 71 arr := hA.grown g2 (by simp; omega)
  have g3 : G w w2 := g1.own g2 hkL
  clear g1 hA hX hL c0 c1 g2 hL2
  have d0 : w2.cell? ⟨kA, 12, none⟩ = some (.int .i64 104) := hA3.cell 12
  have d1 : w2.cell? ⟨kA, 13, none⟩ = some (.int .i64 8) := hA3.cell 13
  go_wp2_with fail
  rw [rounds_succ]
  go_wp2_with fail
  have hAX2 := hA3.lt
  refine wp_gen (RoundW w kL kA w2.heap.size 104 8 true 120 105) ⟨g3.alloc _, hA3.alloc _, Blk.new _ _ _, hL3.alloc _, hkL, hLA, hAX2⟩ ?_
  clear hAX hA3 hL3 g3 d0 d1

  generalize w2.heap.size = kX6
  clear hAX2 w2
  -- round 6
  rintro w1 ⟨g1, hA, hX, hL, hkL, hLA, hAX⟩
  have c0 : w1.cell? ⟨kX6, 0, none⟩ = some (.int .i64 104) := hX.cell 0
  have c1 : w1.cell? ⟨kX6, 1, none⟩ = some (.int .i64 8) := hX.cell 1
  go_region_held3 (fun w' => w'.cell? ⟨kX6, 0, none⟩ = some (.int .i64 104) ∧ w'.cell? ⟨kX6, 1, none⟩ = some (.int .i64 8)) (first | exact ⟨c0, c1⟩ | exact ⟨(hX.g g2).cell 0, (hX.g g2).cell 1⟩)
    ((go_at_call 21; refine (take_no kL true 120 105 5 10 104 ⟨by decide, by decide, by decide, by decide⟩ (by decide) _ (by exact hL)).mono ?_; rintro e w2 ⟨rfl, g2⟩; replace g2 : G w1 w2 := (G.refl w1).drew.trans g2))
  have hE : checkE true 120 105 5 10 104 = 8 := by decide
  rw [hE]
  rename_i hh; clear hh
  have hL3 : Lim w2 kL true 120 105 5 10 := hL.g g2
  have hA3 : Blk w2 kA 71 arr := hA.g g2
  have g3 : G w w2 := g1.trans g2
  clear g1 hA hX hL c0 c1 g2 hE
  go_wp2_with fail
  rw [rounds_succ]
  go_wp2_with fail
  refine (tat_any kL _ _ _ _ _ _ hL3).mono ?_
  rintro e w3 ⟨rfl, g4⟩
  have g5 := g3.trans g4
  clear g3 g4 hL3 hA3 hkL hLA hAX w1 w2
  go_wp2_with fail
  have hB := Blk.new w3 2 #[.int .i64 0, .int .i64 0, .int .i64 0, .int .i64 4]
  have g6 : G w (w3.alloc (.cells #[.int .i64 0, .int .i64 0, .int .i64 0, .int .i64 4] 2)) := (by repeat (first | exact G.refl _ | refine G.alloc ?_ _ | refine G.drewN ?_ _ | refine G.drew ?_ | refine G.trans ?_ (by assumption)))
  refine (fits_any _ [0, 0, 0, 4] 5 10 _ (Rd.ints (l := [0, 0, 0, 4]) hB (by simp))).mono ?_
  rintro e w4 ⟨rfl, g7⟩
  have g8 := g6.trans g7
  clear g6 g7 hB
  rw [show fitsAll [0, 0, 0, 4] 5 10 = (3, true, 0) by decide +kernel]
  go_wp2_with fail
  refine (burst_any 5 9 _).mono ?_
  rintro e w5 ⟨rfl, g9⟩
  rw [show burstI 5 9 = 2 by decide +kernel, show burstE 5 9 = 0 by decide +kernel]
  go_wp2_with fail
  go_ret
  exact ⟨rfl, g8.trans g9⟩
end Go.Proofs.Ytgookddningjpaa
