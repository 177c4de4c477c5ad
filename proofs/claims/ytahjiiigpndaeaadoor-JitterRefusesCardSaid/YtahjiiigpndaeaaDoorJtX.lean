/-
  Jitters: the examples of the chapter.
-/
import Derived.Test.YtahjiiigpndaeaaDoorJtS
set_option linter.unusedVariables false
set_option linter.unusedSimpArgs false
namespace Go.Proofs.YtahjiiigpndaeaaDoor
open Go.RowKit Go.Shelf

theorem jw_one (a : Int) (s : ByteArray) (d t : Int) : jw a s d t 1 = 0 := by
  have := jw_bd a s d t 1 (by decide)
  rw [show max (1 : Int) 1 = 1 from rfl] at this
  omega
theorem wx1 : jwE ⟨#[97]⟩ 0 1 1 = 0 := by decide +kernel
theorem wx2 (a : Int) : jwV a ⟨#[97]⟩ 0 1 1 = 0 := by unfold jwV; rw [if_pos wx1, jw_one]
theorem wx3 : jnE ⟨#[97]⟩ 0 3 1 = 0 := by decide +kernel
theorem wx4 (a : Int) : jL a ⟨#[97]⟩ 0 1 (jnN ⟨#[97]⟩ 0 3 1) = [0, 0, 0] := by
  rw [jnN_ok wx3]
  unfold jL
  simp only [jw_one]
  rfl
theorem wx5 (a : Int) : ltF (lstF a ⟨#[97]⟩ 0 1) (List.range (jnN ⟨#[97]⟩ 0 3 1)) = (1, 0) := by
  rw [jnN_ok wx3, show lstF a ⟨#[97]⟩ 0 1 = fun _ => 0 from funext (fun k => jw_one _ _ _ _)]
  rfl
theorem wx6 : ltE ⟨#[97]⟩ 0 3 1 = 0 := by decide +kernel
theorem wx7 : smE ⟨#[97]⟩ ⟨#[97]⟩ 0 5 100 = 0 := by decide +kernel
theorem cntE_self (f : Nat → Int) (k : Nat) : cntE f f k = k := by
  induction k with
  | zero => rfl
  | succ k ih => unfold cntE; rw [if_pos rfl, ih]
theorem wx8 (a : Int) : smV a ⟨#[97]⟩ ⟨#[97]⟩ 0 5 100 = 5 := by unfold smV; rw [if_pos wx7, cntE_self]; rfl
theorem wx9 : jwE ⟨#[97, 32, 98]⟩ (-1) 0 1 = 15 := by decide +kernel
theorem wx10 (a : Int) : jwV a ⟨#[97, 32, 98]⟩ (-1) 0 1 = 0 := by unfold jwV; rw [if_neg (by rw [wx9]; decide)]
theorem wx11 : ltE ⟨#[97]⟩ 0 0 1 = 5 := by decide +kernel
theorem wx12 : jnN ⟨#[97]⟩ 0 0 1 = 0 := by decide +kernel
theorem wx13 : sdE ⟨#[97]⟩ 253402300799 1 1 1 = 0 := by decide +kernel
theorem wx14 (a : Int) : spL a ⟨#[97]⟩ 253402300799 1 1 1 = [0] := by
  unfold spL
  rw [if_pos wx13]
  rw [show spF a ⟨#[97]⟩ 253402300799 1 1 = fun _ => 0 from funext (fun k => jw_one _ _ _ _)]
  rfl
theorem u7 : u64 7 := ⟨by decide, by decide⟩
set_option maxHeartbeats 2000000 in
theorem works_any (w : World) (ht : Tab w) :
    Calls Tryd.prog 19 #[] w fun e w' => e = .returned (.bool true) ∧ G w w' := by
  have HT := Lib.hid ht
  clear ht
  go_enter Tryd.func19, Tryd.ntmps19
  go_wp2_with fail
  go_at_call 14
  refine (wait_any 7 _ 0 1 1 u7 (by decide) (by decide) _ HT.out).mono ?_
  rintro e w1 ⟨rfl, g1⟩
  rw [wx1, wx2]
  go_wp2_with fail
  go_at_call 15
  refine (jlist_any 7 _ 0 3 1 u7 (by decide) (by decide) _ (HT.out.g g1)).mono ?_
  rintro e w2 ⟨v2, rfl, r2, g2⟩
  rw [wx4] at r2
  rw [wx3]
  have gA := g1.trans g2
  clear g1 g2
  go_wp2_with fail
  go_at_call 29
  refine (jleast_any 7 _ 0 3 1 u7 (by decide) (by decide) _ (HT.out.g gA)).mono ?_
  rintro e w3 ⟨rfl, g3⟩
  rw [wx5, wx6]
  replace r2 := r2.g g3
  replace gA := gA.trans g3
  clear g3
  go_wp2_with fail
  go_at_call 18
  refine (jsame_any 7 _ _ 0 5 100 u7 (by decide) (by decide) _ (HT.out.g gA)).mono ?_
  rintro e w4 ⟨rfl, g4⟩
  rw [wx7, wx8]
  replace r2 := r2.g g4
  replace gA := gA.trans g4
  clear g4
  go_wp2_with fail
  go_at_call 14
  refine (wait_any 7 _ (-1) 0 1 u7 (by decide) (by decide) _ (HT.out.g gA)).mono ?_
  rintro e w5 ⟨rfl, g5⟩
  rw [wx9, wx10]
  replace r2 := r2.g g5
  replace gA := gA.trans g5
  clear g5
  go_wp2_with fail
  go_at_call 29
  refine (jleast_any 7 _ 0 0 1 u7 (by decide) (by decide) _ (HT.out.g gA)).mono ?_
  rintro e w6 ⟨rfl, g6⟩
  rw [wx11, wx12]
  replace r2 := r2.g g6
  replace gA := gA.trans g6
  clear g6
  go_wp2_with fail
  go_at_call 17
  refine (jspread_any 7 _ 253402300799 1 1 1 u7 (by decide) (by decide) _ (HT.out.g gA)).mono ?_
  rintro e w7 ⟨v7, rfl, r7, g7⟩
  rw [wx14] at r7
  rw [wx13]
  replace r2 := r2.g g7
  replace gA := gA.trans g7
  clear g7
  go_wp2_with fail
  have rb := Rd.blk (Blk.new w7 2 #[.int .i64 0, .int .i64 0, .int .i64 0]) (by simp)
  go_at_call 22
  refine (equal_i64 [0, 0, 0] _ _ _ (r2.g ((G.refl w7).alloc _)) rb).mono ?_
  rintro e w8 ⟨rfl, g8⟩
  replace gA := (gA.alloc _).trans g8
  replace r7 := (r7.g ((G.refl w7).alloc _)).g g8
  clear g8 rb r2
  go_wp2_with fail
  have rb := Rd.blk (Blk.new w8 2 #[.int .i64 0]) (by simp)
  go_at_call 22
  refine (equal_i64 [0] _ _ _ (r7.g ((G.refl w8).alloc _)) rb).mono ?_
  rintro e w9 ⟨rfl, g9⟩
  replace gA := (gA.alloc _).trans g9
  clear g9 rb r7
  go_wp2_with fail
  go_ret
  exact ⟨rfl, gA⟩
end Go.Proofs.YtahjiiigpndaeaaDoor
