/-
  JitterRefuses: names, then times, then numbers are looked at; 21 attempts are taken, and no more; 1,000 occurrences, and times that are valid.
  Conditions: none beyond the row's own (the table of package mix as the program's text lays it).
-/
import Derived.Test.YtahjiiigpndaeaaDoorTieM
import Derived.Test.YtahjiiigpndaeaaDoorJtX
import Derived.Test.YtahjiiigpndaeaaDoorRepS
set_option linter.unusedVariables false
set_option linter.unusedSimpArgs false
namespace Go.Proofs.YtahjiiigpndaeaaDoor.lawJitterRefuses
open Go.ChangeShapes Go.WideShapes Go.ChangeAt Go.RowKit
theorem wa0 : jwE nL 0 19 5 = 0 := by decide +kernel
theorem b0 : jnE nL 253402300799 19 68719476736 = 0 := by decide +kernel
theorem c0 : jnE nL 0 21 68719476734 = 0 := by decide +kernel
theorem d0 : sdE nL 0 1 998 9 = 0 := by decide +kernel
theorem e0 : smE nL ⟨#[98]⟩ 0 19 5 = 0 := by decide +kernel
theorem bl0 (q : Int) : (vI .i64 (jL q nL 253402300799 68719476736 (jnN nL 253402300799 19 68719476736))).length = 19 := by rw [vI_len, jL_len]; unfold jnN; rw [b0]; rfl
theorem dl0 (q : Int) : (vI .i64 (spL q nL 0 1 998 9)).length = 998 := by rw [vI_len]; unfold spL; rw [d0]; simp
theorem wa1 : jwE nL 0 20 5 = 0 := by decide +kernel
theorem b1 : jnE nL 253402300799 20 68719476736 = 0 := by decide +kernel
theorem c1 : jnE nL 0 21 68719476735 = 0 := by decide +kernel
theorem d1 : sdE nL 0 1 999 9 = 0 := by decide +kernel
theorem e1 : smE nL ⟨#[98]⟩ 0 20 5 = 0 := by decide +kernel
theorem bl1 (q : Int) : (vI .i64 (jL q nL 253402300799 68719476736 (jnN nL 253402300799 20 68719476736))).length = 20 := by rw [vI_len, jL_len]; unfold jnN; rw [b1]; rfl
theorem dl1 (q : Int) : (vI .i64 (spL q nL 0 1 999 9)).length = 999 := by rw [vI_len]; unfold spL; rw [d1]; simp
theorem wa2 : jwE nL 0 21 5 = 0 := by decide +kernel
theorem b2 : jnE nL 253402300799 21 68719476736 = 0 := by decide +kernel
theorem c2 : jnE nL 0 21 68719476736 = 0 := by decide +kernel
theorem d2 : sdE nL 0 1 1000 9 = 0 := by decide +kernel
theorem e2 : smE nL ⟨#[98]⟩ 0 21 5 = 0 := by decide +kernel
theorem bl2 (q : Int) : (vI .i64 (jL q nL 253402300799 68719476736 (jnN nL 253402300799 21 68719476736))).length = 21 := by rw [vI_len, jL_len]; unfold jnN; rw [b2]; rfl
theorem dl2 (q : Int) : (vI .i64 (spL q nL 0 1 1000 9)).length = 1000 := by rw [vI_len]; unfold spL; rw [d2]; simp
theorem wa3 : jwE nL 0 22 5 = 2 := by decide +kernel
theorem b3 : jnE nL 253402300799 22 68719476736 = 2 := by decide +kernel
theorem c3 : jnE nL 0 21 68719476737 = 2 := by decide +kernel
theorem d3 : sdE nL 0 1 1001 9 = 2 := by decide +kernel
theorem e3 : smE nL ⟨#[98]⟩ 0 22 5 = 2 := by decide +kernel
theorem bl3 (q : Int) : (vI .i64 (jL q nL 253402300799 68719476736 (jnN nL 253402300799 22 68719476736))).length = 0 := by rw [vI_len, jL_len]; unfold jnN; rw [b3]; rfl
theorem dl3 (q : Int) : (vI .i64 (spL q nL 0 1 1001 9)).length = 0 := by rw [vI_len]; unfold spL; rw [d3]; simp
theorem f1 : jwE (nL ++ ⟨#[110]⟩) (-1) 0 (-1) = 15 := by decide +kernel
theorem f2 : jnE nL 253402300800 (-1) (-1) = 14 := by decide +kernel
theorem f3 : jwE nL 0 0 5 = 2 := by decide +kernel
theorem f4 : smE nL ⟨#[]⟩ (-1) 0 0 = 15 := by decide +kernel
theorem f5 : sdE nL 253402300794 3 2 0 = 0 := by decide +kernel
theorem f6 : sdE nL 253402300794 3 3 0 = 14 := by decide +kernel
theorem f7 : sdE nL 253402300794 0 3 0 = 2 := by decide +kernel
theorem f8 : sdE nL 0 68719476736 4 0 = 0 := by decide +kernel
theorem nL_size : nL.size = 24 := by decide
set_option maxRecDepth 10000 in
set_option maxHeartbeats 16000000 in
theorem walk (w : World) (a : Int) (a0 : 0 ≤ a) (a1 : a ≤ 255) (q : Int) (q0 : 0 ≤ q) (q1 : q ≤ 18446744073709551615) (ht : Tab w) :
    Calls Tryd.prog 3 #[.int .u8 a, .int .u64 q] w fun e w' => e = .returned (.bool true) ∧ G w w' := by
  have HT := Lib.hid ht
  clear ht
  have u1 : u64 q := ⟨q0, by omega⟩
  have hm2 : a.tmod 4 = a % 4 := Int.tmod_eq_emod_of_nonneg a0
  have HRp := Lib.hid repeat_n
  have Hwa0 := Lib.hid wa0
  have Hb0 := Lib.hid b0
  have Hc0 := Lib.hid c0
  have Hd0 := Lib.hid d0
  have He0 := Lib.hid e0
  have Hbl0 := Lib.hid (bl0 q)
  have Hdl0 := Lib.hid (dl0 q)
  have Hwa1 := Lib.hid wa1
  have Hb1 := Lib.hid b1
  have Hc1 := Lib.hid c1
  have Hd1 := Lib.hid d1
  have He1 := Lib.hid e1
  have Hbl1 := Lib.hid (bl1 q)
  have Hdl1 := Lib.hid (dl1 q)
  have Hwa2 := Lib.hid wa2
  have Hb2 := Lib.hid b2
  have Hc2 := Lib.hid c2
  have Hd2 := Lib.hid d2
  have He2 := Lib.hid e2
  have Hbl2 := Lib.hid (bl2 q)
  have Hdl2 := Lib.hid (dl2 q)
  have Hwa3 := Lib.hid wa3
  have Hb3 := Lib.hid b3
  have Hc3 := Lib.hid c3
  have Hd3 := Lib.hid d3
  have He3 := Lib.hid e3
  have Hbl3 := Lib.hid (bl3 q)
  have Hdl3 := Lib.hid (dl3 q)
  have Hf1 := Lib.hid f1
  have Hf2 := Lib.hid f2
  have Hf3 := Lib.hid f3
  have Hf4 := Lib.hid f4
  have Hf5 := Lib.hid f5
  have Hf6 := Lib.hid f6
  have Hf7 := Lib.hid f7
  have Hf8 := Lib.hid f8
  have hsz := nL_size
  generalize nL = s at *
  obtain ⟨m, hm⟩ : ∃ m, a % 4 = m := ⟨_, rfl⟩
  rw [hm] at hm2
  have hm4 : m = 0 ∨ m = 1 ∨ m = 2 ∨ m = 3 := by omega
  clear hm
  rcases hm4 with rfl | rfl | rfl | rfl
  · obtain ⟨z1, hz1⟩ : ∃ z, jwV q s 0 19 5 = z := ⟨_, rfl⟩
    have HZ1 := Lib.hid hz1
    clear hz1
    obtain ⟨z2, hz2⟩ : ∃ z, sumJ q s 0 68719476734 (List.range (jnN s 0 21 68719476734)) = z := ⟨_, rfl⟩
    have HZ2 := Lib.hid hz2
    clear hz2
    obtain ⟨z3, hz3⟩ : ∃ z, (smV q s ⟨#[98]⟩ 0 19 5 : Int) = z := ⟨_, rfl⟩
    have HZ3 := Lib.hid hz3
    clear hz3
    obtain ⟨z4, hz4⟩ : ∃ z, jwV q (s ++ ⟨#[110]⟩) (-1) 0 (-1) = z := ⟨_, rfl⟩
    have HZ4 := Lib.hid hz4
    clear hz4
    obtain ⟨z5, hz5⟩ : ∃ z, jwV q s 0 0 5 = z := ⟨_, rfl⟩
    have HZ5 := Lib.hid hz5
    clear hz5
    obtain ⟨z6, hz6⟩ : ∃ z, (smV q s ⟨#[]⟩ (-1) 0 0 : Int) = z := ⟨_, rfl⟩
    have HZ6 := Lib.hid hz6
    clear hz6
    go_enter Tryd.func3, Tryd.ntmps3
    go_wp2_with fail
    go_at_call 13
    refine (HRp.out _).mono ?_
    rintro e w1 ⟨rfl, gA⟩
    go_wp2_with fail
    go_at_call 14
    refine (wait_any q s 0 19 5 u1 (by decide) (by decide) _ (HT.out.g gA)).mono ?_
    rintro e w2 ⟨rfl, gx⟩
    rw [HZ1.out, Hwa0.out]
    replace gA := gA.trans gx
    clear gx
    go_wp2_with fail
    go_at_call 15
    refine (jlist_any q s 253402300799 19 68719476736 u1 (by decide) (by decide) _ (HT.out.g gA)).mono ?_
    rintro e w3 ⟨vL, rfl, rL, gx⟩
    rw [Hb0.out]
    replace gA := gA.trans gx
    clear gx
    obtain ⟨A1, c1, rfl, hc1, hm1, -⟩ := rL
    rw [Hbl0.out] at hc1 ⊢
    go_wp2_with fail
    go_at_call 16
    refine (jtotal_any q s 0 21 68719476734 u1 (by decide) (by decide) _ (HT.out.g gA)).mono ?_
    rintro e w4 ⟨rfl, gx⟩
    rw [HZ2.out, Hc0.out]
    replace gA := gA.trans gx
    clear gx
    go_wp2_with fail
    go_at_call 17
    refine (jspread_any q s 0 1 998 9 u1 (by decide) (by decide) _ (HT.out.g gA)).mono ?_
    rintro e w5 ⟨vS, rfl, rS, gx⟩
    rw [Hd0.out]
    replace gA := gA.trans gx
    clear gx
    obtain ⟨A2, c2, rfl, hc2, hm2', -⟩ := rS
    rw [Hdl0.out] at hc2 ⊢
    go_wp2_with fail
    go_at_call 18
    refine (jsame_any q s ⟨#[98]⟩ 0 19 5 u1 (by decide) (by decide) _ (HT.out.g gA)).mono ?_
    rintro e w6 ⟨rfl, gx⟩
    rw [HZ3.out, He0.out]
    replace gA := gA.trans gx
    clear gx
    go_wp2_with fail
    go_at_call 14
    refine (wait_any q (s ++ ⟨#[110]⟩) (-1) 0 (-1) u1 (by decide) (by decide) _ (HT.out.g gA)).mono ?_
    rintro e w7 ⟨rfl, gx⟩
    rw [HZ4.out, Hf1.out]
    replace gA := gA.trans gx
    clear gx
    go_wp2_with fail
    go_at_call 15
    refine (jlist_any q s 253402300800 (-1) (-1) u1 (by decide) (by decide) _ (HT.out.g gA)).mono ?_
    rintro e w8 ⟨v1, rfl, r1, gx⟩
    rw [Hf2.out]
    replace gA := gA.trans gx
    clear gx
    clear r1
    go_wp2_with fail
    go_at_call 14
    refine (wait_any q s 0 0 5 u1 (by decide) (by decide) _ (HT.out.g gA)).mono ?_
    rintro e w9 ⟨rfl, gx⟩
    rw [HZ5.out, Hf3.out]
    replace gA := gA.trans gx
    clear gx
    go_wp2_with fail
    go_at_call 18
    refine (jsame_any q s ⟨#[]⟩ (-1) 0 0 u1 (by decide) (by decide) _ (HT.out.g gA)).mono ?_
    rintro e w10 ⟨rfl, gx⟩
    rw [HZ6.out, Hf4.out]
    replace gA := gA.trans gx
    clear gx
    go_wp2_with fail
    go_at_call 17
    refine (jspread_any q s 253402300794 3 2 0 u1 (by decide) (by decide) _ (HT.out.g gA)).mono ?_
    rintro e w11 ⟨v5, rfl, r5, gx⟩
    rw [Hf5.out]
    replace gA := gA.trans gx
    clear gx
    clear r5
    go_wp2_with fail
    go_at_call 17
    refine (jspread_any q s 253402300794 3 3 0 u1 (by decide) (by decide) _ (HT.out.g gA)).mono ?_
    rintro e w12 ⟨v6, rfl, r6, gx⟩
    rw [Hf6.out]
    replace gA := gA.trans gx
    clear gx
    clear r6
    go_wp2_with fail
    go_at_call 17
    refine (jspread_any q s 253402300794 0 3 0 u1 (by decide) (by decide) _ (HT.out.g gA)).mono ?_
    rintro e w13 ⟨v7, rfl, r7, gx⟩
    rw [Hf7.out]
    replace gA := gA.trans gx
    clear gx
    clear r7
    go_wp2_with fail
    go_at_call 17
    refine (jspread_any q s 0 68719476736 4 0 u1 (by decide) (by decide) _ (HT.out.g gA)).mono ?_
    rintro e w14 ⟨v8, rfl, r8, gx⟩
    rw [Hf8.out]
    replace gA := gA.trans gx
    clear gx
    clear r8
    go_wp2_with fail
    go_at_call 19
    refine (works_any _ (HT.out.g gA)).mono ?_
    rintro e w99 ⟨rfl, gx⟩
    go_wp2_with fail
    go_ret
    exact ⟨rfl, gA.trans gx⟩
  · obtain ⟨z1, hz1⟩ : ∃ z, jwV q s 0 20 5 = z := ⟨_, rfl⟩
    have HZ1 := Lib.hid hz1
    clear hz1
    obtain ⟨z2, hz2⟩ : ∃ z, sumJ q s 0 68719476735 (List.range (jnN s 0 21 68719476735)) = z := ⟨_, rfl⟩
    have HZ2 := Lib.hid hz2
    clear hz2
    obtain ⟨z3, hz3⟩ : ∃ z, (smV q s ⟨#[98]⟩ 0 20 5 : Int) = z := ⟨_, rfl⟩
    have HZ3 := Lib.hid hz3
    clear hz3
    obtain ⟨z4, hz4⟩ : ∃ z, jwV q (s ++ ⟨#[110]⟩) (-1) 0 (-1) = z := ⟨_, rfl⟩
    have HZ4 := Lib.hid hz4
    clear hz4
    obtain ⟨z5, hz5⟩ : ∃ z, jwV q s 0 0 5 = z := ⟨_, rfl⟩
    have HZ5 := Lib.hid hz5
    clear hz5
    obtain ⟨z6, hz6⟩ : ∃ z, (smV q s ⟨#[]⟩ (-1) 0 0 : Int) = z := ⟨_, rfl⟩
    have HZ6 := Lib.hid hz6
    clear hz6
    go_enter Tryd.func3, Tryd.ntmps3
    go_wp2_with fail
    go_at_call 13
    refine (HRp.out _).mono ?_
    rintro e w1 ⟨rfl, gA⟩
    go_wp2_with fail
    go_at_call 14
    refine (wait_any q s 0 20 5 u1 (by decide) (by decide) _ (HT.out.g gA)).mono ?_
    rintro e w2 ⟨rfl, gx⟩
    rw [HZ1.out, Hwa1.out]
    replace gA := gA.trans gx
    clear gx
    go_wp2_with fail
    go_at_call 15
    refine (jlist_any q s 253402300799 20 68719476736 u1 (by decide) (by decide) _ (HT.out.g gA)).mono ?_
    rintro e w3 ⟨vL, rfl, rL, gx⟩
    rw [Hb1.out]
    replace gA := gA.trans gx
    clear gx
    obtain ⟨A1, c1, rfl, hc1, hm1, -⟩ := rL
    rw [Hbl1.out] at hc1 ⊢
    go_wp2_with fail
    go_at_call 16
    refine (jtotal_any q s 0 21 68719476735 u1 (by decide) (by decide) _ (HT.out.g gA)).mono ?_
    rintro e w4 ⟨rfl, gx⟩
    rw [HZ2.out, Hc1.out]
    replace gA := gA.trans gx
    clear gx
    go_wp2_with fail
    go_at_call 17
    refine (jspread_any q s 0 1 999 9 u1 (by decide) (by decide) _ (HT.out.g gA)).mono ?_
    rintro e w5 ⟨vS, rfl, rS, gx⟩
    rw [Hd1.out]
    replace gA := gA.trans gx
    clear gx
    obtain ⟨A2, c2, rfl, hc2, hm2', -⟩ := rS
    rw [Hdl1.out] at hc2 ⊢
    go_wp2_with fail
    go_at_call 18
    refine (jsame_any q s ⟨#[98]⟩ 0 20 5 u1 (by decide) (by decide) _ (HT.out.g gA)).mono ?_
    rintro e w6 ⟨rfl, gx⟩
    rw [HZ3.out, He1.out]
    replace gA := gA.trans gx
    clear gx
    go_wp2_with fail
    go_at_call 14
    refine (wait_any q (s ++ ⟨#[110]⟩) (-1) 0 (-1) u1 (by decide) (by decide) _ (HT.out.g gA)).mono ?_
    rintro e w7 ⟨rfl, gx⟩
    rw [HZ4.out, Hf1.out]
    replace gA := gA.trans gx
    clear gx
    go_wp2_with fail
    go_at_call 15
    refine (jlist_any q s 253402300800 (-1) (-1) u1 (by decide) (by decide) _ (HT.out.g gA)).mono ?_
    rintro e w8 ⟨v1, rfl, r1, gx⟩
    rw [Hf2.out]
    replace gA := gA.trans gx
    clear gx
    clear r1
    go_wp2_with fail
    go_at_call 14
    refine (wait_any q s 0 0 5 u1 (by decide) (by decide) _ (HT.out.g gA)).mono ?_
    rintro e w9 ⟨rfl, gx⟩
    rw [HZ5.out, Hf3.out]
    replace gA := gA.trans gx
    clear gx
    go_wp2_with fail
    go_at_call 18
    refine (jsame_any q s ⟨#[]⟩ (-1) 0 0 u1 (by decide) (by decide) _ (HT.out.g gA)).mono ?_
    rintro e w10 ⟨rfl, gx⟩
    rw [HZ6.out, Hf4.out]
    replace gA := gA.trans gx
    clear gx
    go_wp2_with fail
    go_at_call 17
    refine (jspread_any q s 253402300794 3 2 0 u1 (by decide) (by decide) _ (HT.out.g gA)).mono ?_
    rintro e w11 ⟨v5, rfl, r5, gx⟩
    rw [Hf5.out]
    replace gA := gA.trans gx
    clear gx
    clear r5
    go_wp2_with fail
    go_at_call 17
    refine (jspread_any q s 253402300794 3 3 0 u1 (by decide) (by decide) _ (HT.out.g gA)).mono ?_
    rintro e w12 ⟨v6, rfl, r6, gx⟩
    rw [Hf6.out]
    replace gA := gA.trans gx
    clear gx
    clear r6
    go_wp2_with fail
    go_at_call 17
    refine (jspread_any q s 253402300794 0 3 0 u1 (by decide) (by decide) _ (HT.out.g gA)).mono ?_
    rintro e w13 ⟨v7, rfl, r7, gx⟩
    rw [Hf7.out]
    replace gA := gA.trans gx
    clear gx
    clear r7
    go_wp2_with fail
    go_at_call 17
    refine (jspread_any q s 0 68719476736 4 0 u1 (by decide) (by decide) _ (HT.out.g gA)).mono ?_
    rintro e w14 ⟨v8, rfl, r8, gx⟩
    rw [Hf8.out]
    replace gA := gA.trans gx
    clear gx
    clear r8
    go_wp2_with fail
    go_at_call 19
    refine (works_any _ (HT.out.g gA)).mono ?_
    rintro e w99 ⟨rfl, gx⟩
    go_wp2_with fail
    go_ret
    exact ⟨rfl, gA.trans gx⟩
  · obtain ⟨z1, hz1⟩ : ∃ z, jwV q s 0 21 5 = z := ⟨_, rfl⟩
    have HZ1 := Lib.hid hz1
    clear hz1
    obtain ⟨z2, hz2⟩ : ∃ z, sumJ q s 0 68719476736 (List.range (jnN s 0 21 68719476736)) = z := ⟨_, rfl⟩
    have HZ2 := Lib.hid hz2
    clear hz2
    obtain ⟨z3, hz3⟩ : ∃ z, (smV q s ⟨#[98]⟩ 0 21 5 : Int) = z := ⟨_, rfl⟩
    have HZ3 := Lib.hid hz3
    clear hz3
    obtain ⟨z4, hz4⟩ : ∃ z, jwV q (s ++ ⟨#[110]⟩) (-1) 0 (-1) = z := ⟨_, rfl⟩
    have HZ4 := Lib.hid hz4
    clear hz4
    obtain ⟨z5, hz5⟩ : ∃ z, jwV q s 0 0 5 = z := ⟨_, rfl⟩
    have HZ5 := Lib.hid hz5
    clear hz5
    obtain ⟨z6, hz6⟩ : ∃ z, (smV q s ⟨#[]⟩ (-1) 0 0 : Int) = z := ⟨_, rfl⟩
    have HZ6 := Lib.hid hz6
    clear hz6
    go_enter Tryd.func3, Tryd.ntmps3
    go_wp2_with fail
    go_at_call 13
    refine (HRp.out _).mono ?_
    rintro e w1 ⟨rfl, gA⟩
    go_wp2_with fail
    go_at_call 14
    refine (wait_any q s 0 21 5 u1 (by decide) (by decide) _ (HT.out.g gA)).mono ?_
    rintro e w2 ⟨rfl, gx⟩
    rw [HZ1.out, Hwa2.out]
    replace gA := gA.trans gx
    clear gx
    go_wp2_with fail
    go_at_call 15
    refine (jlist_any q s 253402300799 21 68719476736 u1 (by decide) (by decide) _ (HT.out.g gA)).mono ?_
    rintro e w3 ⟨vL, rfl, rL, gx⟩
    rw [Hb2.out]
    replace gA := gA.trans gx
    clear gx
    obtain ⟨A1, c1, rfl, hc1, hm1, -⟩ := rL
    rw [Hbl2.out] at hc1 ⊢
    go_wp2_with fail
    go_at_call 16
    refine (jtotal_any q s 0 21 68719476736 u1 (by decide) (by decide) _ (HT.out.g gA)).mono ?_
    rintro e w4 ⟨rfl, gx⟩
    rw [HZ2.out, Hc2.out]
    replace gA := gA.trans gx
    clear gx
    go_wp2_with fail
    go_at_call 17
    refine (jspread_any q s 0 1 1000 9 u1 (by decide) (by decide) _ (HT.out.g gA)).mono ?_
    rintro e w5 ⟨vS, rfl, rS, gx⟩
    rw [Hd2.out]
    replace gA := gA.trans gx
    clear gx
    obtain ⟨A2, c2, rfl, hc2, hm2', -⟩ := rS
    rw [Hdl2.out] at hc2 ⊢
    go_wp2_with fail
    go_at_call 18
    refine (jsame_any q s ⟨#[98]⟩ 0 21 5 u1 (by decide) (by decide) _ (HT.out.g gA)).mono ?_
    rintro e w6 ⟨rfl, gx⟩
    rw [HZ3.out, He2.out]
    replace gA := gA.trans gx
    clear gx
    go_wp2_with fail
    go_at_call 14
    refine (wait_any q (s ++ ⟨#[110]⟩) (-1) 0 (-1) u1 (by decide) (by decide) _ (HT.out.g gA)).mono ?_
    rintro e w7 ⟨rfl, gx⟩
    rw [HZ4.out, Hf1.out]
    replace gA := gA.trans gx
    clear gx
    go_wp2_with fail
    go_at_call 15
    refine (jlist_any q s 253402300800 (-1) (-1) u1 (by decide) (by decide) _ (HT.out.g gA)).mono ?_
    rintro e w8 ⟨v1, rfl, r1, gx⟩
    rw [Hf2.out]
    replace gA := gA.trans gx
    clear gx
    clear r1
    go_wp2_with fail
    go_at_call 14
    refine (wait_any q s 0 0 5 u1 (by decide) (by decide) _ (HT.out.g gA)).mono ?_
    rintro e w9 ⟨rfl, gx⟩
    rw [HZ5.out, Hf3.out]
    replace gA := gA.trans gx
    clear gx
    go_wp2_with fail
    go_at_call 18
    refine (jsame_any q s ⟨#[]⟩ (-1) 0 0 u1 (by decide) (by decide) _ (HT.out.g gA)).mono ?_
    rintro e w10 ⟨rfl, gx⟩
    rw [HZ6.out, Hf4.out]
    replace gA := gA.trans gx
    clear gx
    go_wp2_with fail
    go_at_call 17
    refine (jspread_any q s 253402300794 3 2 0 u1 (by decide) (by decide) _ (HT.out.g gA)).mono ?_
    rintro e w11 ⟨v5, rfl, r5, gx⟩
    rw [Hf5.out]
    replace gA := gA.trans gx
    clear gx
    clear r5
    go_wp2_with fail
    go_at_call 17
    refine (jspread_any q s 253402300794 3 3 0 u1 (by decide) (by decide) _ (HT.out.g gA)).mono ?_
    rintro e w12 ⟨v6, rfl, r6, gx⟩
    rw [Hf6.out]
    replace gA := gA.trans gx
    clear gx
    clear r6
    go_wp2_with fail
    go_at_call 17
    refine (jspread_any q s 253402300794 0 3 0 u1 (by decide) (by decide) _ (HT.out.g gA)).mono ?_
    rintro e w13 ⟨v7, rfl, r7, gx⟩
    rw [Hf7.out]
    replace gA := gA.trans gx
    clear gx
    clear r7
    go_wp2_with fail
    go_at_call 17
    refine (jspread_any q s 0 68719476736 4 0 u1 (by decide) (by decide) _ (HT.out.g gA)).mono ?_
    rintro e w14 ⟨v8, rfl, r8, gx⟩
    rw [Hf8.out]
    replace gA := gA.trans gx
    clear gx
    clear r8
    go_wp2_with fail
    go_at_call 19
    refine (works_any _ (HT.out.g gA)).mono ?_
    rintro e w99 ⟨rfl, gx⟩
    go_wp2_with fail
    go_ret
    exact ⟨rfl, gA.trans gx⟩
  · obtain ⟨z1, hz1⟩ : ∃ z, jwV q s 0 22 5 = z := ⟨_, rfl⟩
    have HZ1 := Lib.hid hz1
    clear hz1
    obtain ⟨z2, hz2⟩ : ∃ z, sumJ q s 0 68719476737 (List.range (jnN s 0 21 68719476737)) = z := ⟨_, rfl⟩
    have HZ2 := Lib.hid hz2
    clear hz2
    obtain ⟨z3, hz3⟩ : ∃ z, (smV q s ⟨#[98]⟩ 0 22 5 : Int) = z := ⟨_, rfl⟩
    have HZ3 := Lib.hid hz3
    clear hz3
    obtain ⟨z4, hz4⟩ : ∃ z, jwV q (s ++ ⟨#[110]⟩) (-1) 0 (-1) = z := ⟨_, rfl⟩
    have HZ4 := Lib.hid hz4
    clear hz4
    obtain ⟨z5, hz5⟩ : ∃ z, jwV q s 0 0 5 = z := ⟨_, rfl⟩
    have HZ5 := Lib.hid hz5
    clear hz5
    obtain ⟨z6, hz6⟩ : ∃ z, (smV q s ⟨#[]⟩ (-1) 0 0 : Int) = z := ⟨_, rfl⟩
    have HZ6 := Lib.hid hz6
    clear hz6
    go_enter Tryd.func3, Tryd.ntmps3
    go_wp2_with fail
    go_at_call 13
    refine (HRp.out _).mono ?_
    rintro e w1 ⟨rfl, gA⟩
    go_wp2_with fail
    go_at_call 14
    refine (wait_any q s 0 22 5 u1 (by decide) (by decide) _ (HT.out.g gA)).mono ?_
    rintro e w2 ⟨rfl, gx⟩
    rw [HZ1.out, Hwa3.out]
    replace gA := gA.trans gx
    clear gx
    go_wp2_with fail
    go_at_call 15
    refine (jlist_any q s 253402300799 22 68719476736 u1 (by decide) (by decide) _ (HT.out.g gA)).mono ?_
    rintro e w3 ⟨vL, rfl, rL, gx⟩
    rw [Hb3.out]
    replace gA := gA.trans gx
    clear gx
    obtain ⟨A1, c1, rfl, hc1, hm1, -⟩ := rL
    rw [Hbl3.out] at hc1 ⊢
    go_wp2_with fail
    go_at_call 16
    refine (jtotal_any q s 0 21 68719476737 u1 (by decide) (by decide) _ (HT.out.g gA)).mono ?_
    rintro e w4 ⟨rfl, gx⟩
    rw [HZ2.out, Hc3.out]
    replace gA := gA.trans gx
    clear gx
    go_wp2_with fail
    go_at_call 17
    refine (jspread_any q s 0 1 1001 9 u1 (by decide) (by decide) _ (HT.out.g gA)).mono ?_
    rintro e w5 ⟨vS, rfl, rS, gx⟩
    rw [Hd3.out]
    replace gA := gA.trans gx
    clear gx
    obtain ⟨A2, c2, rfl, hc2, hm2', -⟩ := rS
    rw [Hdl3.out] at hc2 ⊢
    go_wp2_with fail
    go_at_call 18
    refine (jsame_any q s ⟨#[98]⟩ 0 22 5 u1 (by decide) (by decide) _ (HT.out.g gA)).mono ?_
    rintro e w6 ⟨rfl, gx⟩
    rw [HZ3.out, He3.out]
    replace gA := gA.trans gx
    clear gx
    go_wp2_with fail
    go_at_call 14
    refine (wait_any q (s ++ ⟨#[110]⟩) (-1) 0 (-1) u1 (by decide) (by decide) _ (HT.out.g gA)).mono ?_
    rintro e w7 ⟨rfl, gx⟩
    rw [HZ4.out, Hf1.out]
    replace gA := gA.trans gx
    clear gx
    go_wp2_with fail
    go_at_call 15
    refine (jlist_any q s 253402300800 (-1) (-1) u1 (by decide) (by decide) _ (HT.out.g gA)).mono ?_
    rintro e w8 ⟨v1, rfl, r1, gx⟩
    rw [Hf2.out]
    replace gA := gA.trans gx
    clear gx
    clear r1
    go_wp2_with fail
    go_at_call 14
    refine (wait_any q s 0 0 5 u1 (by decide) (by decide) _ (HT.out.g gA)).mono ?_
    rintro e w9 ⟨rfl, gx⟩
    rw [HZ5.out, Hf3.out]
    replace gA := gA.trans gx
    clear gx
    go_wp2_with fail
    go_at_call 18
    refine (jsame_any q s ⟨#[]⟩ (-1) 0 0 u1 (by decide) (by decide) _ (HT.out.g gA)).mono ?_
    rintro e w10 ⟨rfl, gx⟩
    rw [HZ6.out, Hf4.out]
    replace gA := gA.trans gx
    clear gx
    go_wp2_with fail
    go_at_call 17
    refine (jspread_any q s 253402300794 3 2 0 u1 (by decide) (by decide) _ (HT.out.g gA)).mono ?_
    rintro e w11 ⟨v5, rfl, r5, gx⟩
    rw [Hf5.out]
    replace gA := gA.trans gx
    clear gx
    clear r5
    go_wp2_with fail
    go_at_call 17
    refine (jspread_any q s 253402300794 3 3 0 u1 (by decide) (by decide) _ (HT.out.g gA)).mono ?_
    rintro e w12 ⟨v6, rfl, r6, gx⟩
    rw [Hf6.out]
    replace gA := gA.trans gx
    clear gx
    clear r6
    go_wp2_with fail
    go_at_call 17
    refine (jspread_any q s 253402300794 0 3 0 u1 (by decide) (by decide) _ (HT.out.g gA)).mono ?_
    rintro e w13 ⟨v7, rfl, r7, gx⟩
    rw [Hf7.out]
    replace gA := gA.trans gx
    clear gx
    clear r7
    go_wp2_with fail
    go_at_call 17
    refine (jspread_any q s 0 68719476736 4 0 u1 (by decide) (by decide) _ (HT.out.g gA)).mono ?_
    rintro e w14 ⟨v8, rfl, r8, gx⟩
    rw [Hf8.out]
    replace gA := gA.trans gx
    clear gx
    clear r8
    go_wp2_with fail
    go_at_call 19
    refine (works_any _ (HT.out.g gA)).mono ?_
    rintro e w99 ⟨rfl, gx⟩
    go_wp2_with fail
    go_ret
    exact ⟨rfl, gA.trans gx⟩

set_option maxRecDepth 4000 in
set_option maxHeartbeats 2000000 in
theorem contract (H : Type) (enc : TypeId × Value → H) (W : World) (base : Nat) (args : Array Value) (ds gs : List (DataW H)) (before : List MemPlace)
    (hval : ∀ (j : Nat) t v, Tryd.f3.params[j]? = some t → args[j]? = some v → Value.okWide Tryd.prog W .any base t v)
    (hW : DataW.Whole enc Tryd.prog Tryd.f3.params.toList Rows.jitterRefusesSpec.vars false W args.toList ds gs before) (hL : laidMetH Tryd.prog Rows.jitterRefusesRow.laid W) :
    Calls Tryd.prog 3 args W fun e W' => ∃ v, e = .returned v ∧ Rows.jitterRefusesSpec.post enc Tryd.prog Tryd.f3 false true false false W args v W' := by
  have hW' := hW
  obtain ⟨p, q, hA0, hV, rfl, hfz, hnd⟩ := hW
  have hA : DataW.TrodAll enc Tryd.prog W 0 (fun _ => true) true Tryd.f3.params.toList args.toList ds p := hA0
  rw [Tryd.params3] at hA hval
  obtain ⟨v0, vs0, d0, ds0, p0, q0, hargs, rfl, rfl, h0, r0⟩ := trodAll_cons hA
  obtain ⟨v1, vs1, d1, ds1, p1, q1, rfl, rfl, rfl, h1, r1⟩ := trodAll_cons r0
  obtain ⟨rfl, rfl, rfl⟩ := trodAll_nil r1
  obtain rfl : args = #[v0, v1] := by first | exact Array.ext' hargs | (cases args; simp_all)
  obtain ⟨a0, rfl, rfl, rfl, w0⟩ := open_int Tryd.underlying5 (hval 0 5 v0 rfl rfl) h0
  simp [Lit.wf, IntKind.min, IntKind.max, IntKind.bits, IntKind.signed] at w0
  obtain ⟨a1, rfl, rfl, rfl, w1⟩ := open_int Tryd.underlying22 (hval 1 22 v1 rfl rfl) h1
  simp [Lit.wf, IntKind.min, IntKind.max, IntKind.bits, IntKind.signed] at w1
  refine (walk (w := W) a0 (by omega) (by omega) a1 (by omega) (by omega) (tab_of hL)).mono fun e W' ⟨he, hg⟩ => ?_
  subst he
  exact ⟨_, rfl, law_post laidOut_ (by
    intro t ht
    rw [Tryd.params3] at ht
    simp at ht
    rcases ht with rfl | rfl <;> exact ⟨by kernel_rfl, by decide +kernel⟩) hW' rfl rfl (by kernel_rfl) Tryd.underlying4 hg⟩
theorem laid_met (os : Os) : laidMet Tryd.prog Rows.jitterRefusesRow.laid ((laidWorld os).forCall (fun _ _ => 0) ⟨#[], #[.int .u8 0, .int .u64 0], []⟩).memory :=
  laidMet_of_run' 8 (by kernel_rfl) (by kernel_rfl)
theorem reads (os : Os) {H : Type} (enc : TypeId × Value → H) : ∃ places, DataW.whole enc Tryd.prog ((laidWorld os).forCall (fun _ _ => 0) ⟨#[], #[.int .u8 0, .int .u64 0], []⟩).memory Tryd.f3.params.toList Rows.jitterRefusesSpec.vars false (#[.int .u8 0, .int .u64 0] : Array Value).toList 8 = some ([.lit (.int .u8 0), .lit (.int .u64 0)], [], places) :=
  ⟨[], by kernel_rfl⟩
set_option maxRecDepth 100000 in
theorem lifted (os : Os) (started : os.Started) (H : Type) (enc : TypeId × Value → H) (F : Stop.Interp) :
    ReturnsInHanded {} Tryd.checked os 3 .any ((OpenSpec.ofChange Rows.jitterRefusesSpec).preRow enc Tryd.prog Tryd.f3 Rows.jitterRefusesRow.domain false Rows.jitterRefusesRow.laid) (((OpenSpec.ofChange Rows.jitterRefusesSpec).at F).post enc Tryd.prog Tryd.f3 false true false false) := by
  obtain ⟨places, hx⟩ := reads os enc
  refine returnsInHanded_of_row (C := Tryd.checked) (s := OpenSpec.ofChange Rows.jitterRefusesSpec) own_ started (by kernel_rfl) Tryd.func3
    (witness_row_at (enc := enc) (C := Tryd.checked) false (laidWorld os) #[.int .u8 0, .int .u64 0] rfl (by kernel_rfl) (by kernel_rfl) (by kernel_rfl)
      (OpenSpec.preRow_of_cond 8 hx (by kernel_rfl) (fun k hk => by cases hk) (by kernel_rfl) (laid_met os))) ?_
  intro W base args ds gs before hval hW _ _ _ hL _ _
  exact contract H enc W base args ds gs before hval hW hL
theorem said : Rows.JitterRefusesSaid :=
  OpenClaim.holds_of_cond 3 Tryd.f3 rfl rfl rfl rfl rfl rfl rfl ⟨rfl, rfl, rfl, rfl, rfl⟩ rfl rfl rfl rfl rfl (by kernel_rfl) Tryd.func3 (by kernel_rfl)
    (of_decide_eq_true (by kernel_rfl)) (by unfold Func.isWrapper; first | (rw [if_pos (by decide +kernel)]; kernel_rfl) | (rw [if_neg (by decide +kernel)]; exact ⟨rfl, rfl⟩))
    (fun os started H enc _ F => by rw [OpenClaim.pre_eq_preRow]; exact lifted os started H enc F)
theorem plain (f : FuncId) (fn : Func) (hf : Tryd.pinned.checked.prog.funcNamed "wakeman/wakemanlaw29.JitterRefuses" = some f) (hfn : Tryd.pinned.checked.prog.funcs[f]? = some fn) :
    false = Tryd.pinned.checked.prog.looks [] ∧ ∀ (j : Nat) t, fn.params[j]? = some t → Tryd.pinned.checked.prog.wantsStandIn t = false := by
  obtain rfl : f = 3 := Option.some.inj ((show Tryd.prog.funcNamed "wakeman/wakemanlaw29.JitterRefuses" = some 3 by kernel_rfl).symm.trans hf) |>.symm
  obtain rfl : fn = Tryd.f3 := (Option.some.inj (Tryd.func3.symm.trans hfn)).symm
  refine ⟨by kernel_rfl, fun j t ht => ?_⟩
  rw [Tryd.params3] at ht
  have hm := Array.mem_of_getElem? ht
  simp at hm
  rcases hm with rfl | rfl
  · exact (show Tryd.prog.wantsStandIn 5 = false by kernel_rfl)
  · exact (show Tryd.prog.wantsStandIn 22 = false by kernel_rfl)
theorem card : Rows.JitterRefusesCardSaid :=
  Claim7.holds_tied_plain_at .later [] _ _ _ _ said (fun _ h => by cases h) (by kernel_rfl) (fun _ h => by cases h) jitterRefuses_row_tie rfl ⟨rfl, rfl⟩ (by kernel_rfl) rfl plain (by kernel_rfl)
#print axioms card
end Go.Proofs.YtahjiiigpndaeaaDoor.lawJitterRefuses
