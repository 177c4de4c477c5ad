/-
  RetryWithin: the next attempt is ready after the wait and the jitter of the attempt that failed; this time is allowed; just these times are allowed.
  Conditions: none beyond the row's own (the table of package mix as the program's text lays it).
-/
import Derived.Test.YtanipfenioaigaaDoorTieD
import Derived.Test.YtanipfenioaigaaDoorRtY
import Derived.Deep.RegionHeld3
set_option linter.unusedVariables false
set_option linter.unusedSimpArgs false
namespace Go.Proofs.YtanipfenioaigaaDoor.lawRetryWithin
open Go.ChangeShapes Go.WideShapes Go.ChangeAt Go.RowKit
theorem jwV_lt (a : Int) (s : ByteArray) (d t L : Int) (h : 0 ≤ L) : 0 ≤ jwV a s d t L ∧ jwV a s d t L < max L 1 := by
  unfold jwV
  split
  · exact jw_bd a s d t L h
  · omega
set_option maxRecDepth 4000 in
set_option maxHeartbeats 8000000 in
theorem walk (w : World) (a b c e : Int) (ra : 0 ≤ a ∧ a ≤ 255) (rb : 0 ≤ b ∧ b ≤ 65535) (rc : 0 ≤ c ∧ c ≤ 65535) (re : 0 ≤ e ∧ e ≤ 65535) (s : Int) (s0 : 0 ≤ s) (s1 : s ≤ 18446744073709551615) (n : Int) (n0 : 0 ≤ n) (n1 : n ≤ 255) (t : Int) (t0 : 0 ≤ t) (t1 : t ≤ 4294967295) (z : Int) (z0 : -32768 ≤ z) (z1 : z ≤ 32767) (hT : Tab w) :
    Calls Tryd.prog 6 #[.agg #[.int .u8 a, .int .u16 b, .int .u16 c, .int .u16 e], .int .u64 s, .int .u8 n, .int .u32 t, .int .i16 z] w fun e w' => e = .returned (.bool true) ∧ G w w' := by
  have HT := Lib.hid hT
  obtain ⟨M, B, C, J, hok, ⟨m0, m1⟩, ⟨j0, j1⟩, hmd⟩ := made_ex a b c e ra rb rc re
  have HMd := Lib.hid hmd
  clear hT hmd
  obtain ⟨j, hj⟩ : ∃ j, n.tmod (M + 1) = j := ⟨_, rfl⟩
  have hj0 : 0 ≤ j := by rw [← hj]; exact Int.tmod_nonneg _ n0
  have hj1 : j ≤ M := by have := Int.tmod_lt_of_pos n (show 0 < M + 1 by omega); omega
  have hnz : (M + 1 == 0) = false := by simp; omega
  have u1 : u64 s := ⟨s0, by omega⟩
  have k0 : -9223372036854775808 ≤ 1 + j := by omega
  have k1 : 1 + j ≤ 9223372036854775807 := by omega
  obtain ⟨h, hh⟩ : ∃ h, t.tdiv 2 = h := ⟨_, rfl⟩
  have hh2 : t / 2 = h := by rw [← hh, Int.tdiv_eq_ediv_of_nonneg t0]
  have h0 : 0 ≤ h := by omega
  have h1 : h ≤ 4294967295 := by omega
  have hwh : IntKind.u32.wrap h = h := by rw [IntKind.wrap_u32]; omega
  have hE1 : rtE M B C J ⟨#[115, 111, 109, 101, 45, 106, 111, 98]⟩ h t = 0 := by unfold rtE; rw [if_pos hok, if_pos (by decide +kernel), if_pos ⟨by unfold tmB; omega, by unfold tmB; omega⟩]
  have hL : lfE M B C J (1 + j) = 0 := by unfold lfE; rw [if_pos hok, if_pos (by omega)]
  have HN1 : Hid (nxE M B C J ⟨#[115, 111, 109, 101, 45, 106, 111, 98]⟩ h (1 + j) t = 0) := Lib.hid ((if_pos hE1).trans hL)
  clear hE1 hL hh2
  by_cases hlt : j < M
  · have HB1 : Hid (nxB M B C J ⟨#[115, 111, 109, 101, 45, 106, 111, 98]⟩ h (1 + j) t = true) := Lib.hid (decide_eq_true ⟨HN1.out, by omega⟩)
    have HW : Hid (waitE M B C J (1 + j) = 0) := Lib.hid (by unfold waitE; rw [if_pos hok, if_pos (by omega)])
    have HG1 : Hid (erE M B C J (1 + j) t = 0) := Lib.hid (by unfold erE; rw [if_pos hok, if_pos (by unfold tmB; omega), HW.out])
    have HJE : Hid (jwE ⟨#[115, 111, 109, 101, 45, 106, 111, 98]⟩ h (1 + j) J = 0) := Lib.hid (by unfold jwE jcE; rw [if_pos (by decide +kernel), if_pos (by omega), if_pos ⟨by simp; omega, by omega⟩])
    obtain ⟨b0, b1⟩ := waitI_bd M B C J (1 + j)
    have hq2 := jwV_lt s ⟨#[115, 111, 109, 101, 45, 106, 111, 98]⟩ h (1 + j) J j0
    obtain ⟨x, hx⟩ : ∃ x, waitI M B C J (1 + j) = x := ⟨_, rfl⟩
    obtain ⟨q, hq⟩ : ∃ q, jwV s ⟨#[115, 111, 109, 101, 45, 106, 111, 98]⟩ h (1 + j) J = q := ⟨_, rfl⟩
    have HX := Lib.hid hx
    have HY := Lib.hid hq
    obtain ⟨F, hF⟩ : ∃ F, t + x = F := ⟨_, rfl⟩
    have HF1 : Hid (erV M B C J (1 + j) t = F) := Lib.hid ((if_pos HG1.out).trans (by rw [HX.out]; exact hF))
    have HV1 : Hid (nxV M B C J s ⟨#[115, 111, 109, 101, 45, 106, 111, 98]⟩ h (1 + j) t = F + q) := Lib.hid ((if_pos HB1.out).trans (by unfold aft; rw [HX.out, HY.out]; omega))
    rw [hx] at b0 b1
    rw [hq] at hq2
    clear hx hq
    have f0 : 0 ≤ F := by omega
    have f1 : F ≤ 73014444031 := by omega
    obtain ⟨q0, q1⟩ := hq2
    have q2 : q ≤ 65535 := by omega
    have HA1 : Hid (alB M B C J (1 + j) t (F + q) = true) := Lib.hid (by unfold alB; rw [HG1.out, HF1.out]; exact decide_eq_true ⟨rfl, by omega, by omega⟩)
    have hA2 : alB M B C J (1 + j) t (F + z) = decide (0 ≤ z ∧ z < max J 1) := by
      unfold alB
      rw [HG1.out, HF1.out]
      by_cases hz : 0 ≤ z ∧ z < max J 1
      · rw [decide_eq_true hz]; exact decide_eq_true ⟨rfl, by omega, by omega⟩
      · rw [decide_eq_false hz]; exact decide_eq_false (fun h => hz ⟨by omega, by omega⟩)
    clear hok
    rcases Int.lt_or_le J 1 with hJ | hJ
    · have q3 : F + q < F + 1 := by omega
      have q4 : q < 1 := by omega
      have hxx : F + q - F = q := by omega
      clear q1
      rcases Int.lt_or_le z 0 with hz | hz
      · have HA2 : Hid (alB M B C J (1 + j) t (F + z) = false) := Lib.hid (hA2.trans (decide_eq_false (by omega)))
        clear hA2
        go_enter Tryd.func6, Tryd.ntmps6
        go_wp2_with fail
        go_at_call 27
        refine (HMd.out _).mono ?_
        rintro e0 w1 ⟨rfl, g1⟩
        have bR := Blk.new w1 23 #[.int .i64 M, .int .i64 B, .int .i64 C, .int .i64 J]
        have gA : G w (w1.alloc (.cells #[.int .i64 M, .int .i64 B, .int .i64 C, .int .i64 J] 23)) := (((G.refl w).alloc _).trans g1).alloc _
        have hkw : w.heap.size ≤ w1.heap.size := by have := g1.size; rw [World.size_alloc] at this; omega
        clear g1
        have c0 : (w1.alloc (.cells #[.int .i64 M, .int .i64 B, .int .i64 C, .int .i64 J] 23)).cell? ⟨w1.heap.size, 0, none⟩ = some (.int .i64 M) := bR.cell 0
        have c1 : (w1.alloc (.cells #[.int .i64 M, .int .i64 B, .int .i64 C, .int .i64 J] 23)).cell? ⟨w1.heap.size, 1, none⟩ = some (.int .i64 B) := bR.cell 1
        have c2 : (w1.alloc (.cells #[.int .i64 M, .int .i64 B, .int .i64 C, .int .i64 J] 23)).cell? ⟨w1.heap.size, 2, none⟩ = some (.int .i64 C) := bR.cell 2
        have c3 : (w1.alloc (.cells #[.int .i64 M, .int .i64 B, .int .i64 C, .int .i64 J] 23)).cell? ⟨w1.heap.size, 3, none⟩ = some (.int .i64 J) := bR.cell 3
        go_wp2_with fail
        generalize w1.alloc (.cells #[.int .i64 M, .int .i64 B, .int .i64 C, .int .i64 J] 23) = w2 at *
        generalize w1.heap.size = kR at *
        go_at_call 17
        refine (next_any M B C J s _ h (1 + j) t u1 k0 k1 _ (HT.out.g gA)).mono ?_
        rintro e0 w3 ⟨rfl, gx⟩
        rw [HV1.out, HB1.out, HN1.out]
        replace gA := gA.trans gx
        replace bR := bR.g gx
        clear c0 c1 c2 c3 gx
        have c0 : w3.cell? ⟨kR, 0, none⟩ = some (.int .i64 M) := bR.cell 0
        have c1 : w3.cell? ⟨kR, 1, none⟩ = some (.int .i64 B) := bR.cell 1
        have c2 : w3.cell? ⟨kR, 2, none⟩ = some (.int .i64 C) := bR.cell 2
        have c3 : w3.cell? ⟨kR, 3, none⟩ = some (.int .i64 J) := bR.cell 3
        go_wp2_with fail
        go_at_call 21
        refine (earliest_any M B C J (1 + j) t _).mono ?_
        rintro e0 w4 ⟨rfl, gx⟩
        rw [HF1.out, HG1.out]
        replace gA := gA.trans gx
        replace bR := bR.g gx
        clear c0 c1 c2 c3 gx
        have c0 : w4.cell? ⟨kR, 0, none⟩ = some (.int .i64 M) := bR.cell 0
        have c1 : w4.cell? ⟨kR, 1, none⟩ = some (.int .i64 B) := bR.cell 1
        have c2 : w4.cell? ⟨kR, 2, none⟩ = some (.int .i64 C) := bR.cell 2
        have c3 : w4.cell? ⟨kR, 3, none⟩ = some (.int .i64 J) := bR.cell 3
        go_wp2_with fail
        go_at_call 28
        refine (bwait_any M B C J (1 + j) _).mono ?_
        rintro e0 w5 ⟨rfl, gx⟩
        rw [HX.out, HW.out]
        replace gA := gA.trans gx
        replace bR := bR.g gx
        clear c0 c1 c2 c3 gx
        have c0 : w5.cell? ⟨kR, 0, none⟩ = some (.int .i64 M) := bR.cell 0
        have c1 : w5.cell? ⟨kR, 1, none⟩ = some (.int .i64 B) := bR.cell 1
        have c2 : w5.cell? ⟨kR, 2, none⟩ = some (.int .i64 C) := bR.cell 2
        have c3 : w5.cell? ⟨kR, 3, none⟩ = some (.int .i64 J) := bR.cell 3
        go_wp2_with fail
        go_at_call 29
        refine (wait_any s _ h (1 + j) J u1 k0 k1 _ (HT.out.g gA)).mono ?_
        rintro e0 w6 ⟨rfl, gx⟩
        rw [HY.out, HJE.out]
        replace gA := gA.trans gx
        replace bR := bR.g gx
        clear c0 c1 c2 c3 gx
        have c0 : w6.cell? ⟨kR, 0, none⟩ = some (.int .i64 M) := bR.cell 0
        have c1 : w6.cell? ⟨kR, 1, none⟩ = some (.int .i64 B) := bR.cell 1
        have c2 : w6.cell? ⟨kR, 2, none⟩ = some (.int .i64 C) := bR.cell 2
        have c3 : w6.cell? ⟨kR, 3, none⟩ = some (.int .i64 J) := bR.cell 3
        go_wp2_with fail
        go_at_call 23
        refine (allowed_any M B C J (1 + j) t (F + q) (by omega) (by omega) _).mono ?_
        rintro e0 w7 ⟨rfl, gx⟩
        rw [HA1.out, HG1.out]
        replace gA := gA.trans gx
        replace bR := bR.g gx
        clear c0 c1 c2 c3 gx
        have c0 : w7.cell? ⟨kR, 0, none⟩ = some (.int .i64 M) := bR.cell 0
        have c1 : w7.cell? ⟨kR, 1, none⟩ = some (.int .i64 B) := bR.cell 1
        have c2 : w7.cell? ⟨kR, 2, none⟩ = some (.int .i64 C) := bR.cell 2
        have c3 : w7.cell? ⟨kR, 3, none⟩ = some (.int .i64 J) := bR.cell 3
        go_wp2_with fail
        go_at_call 23
        refine (allowed_any M B C J (1 + j) t (F + z) (by omega) (by omega) _).mono ?_
        rintro e0 w8 ⟨rfl, gx⟩
        rw [HA2.out, HG1.out]
        replace gA := gA.trans gx
        replace bR := bR.g gx
        clear c0 c1 c2 c3 gx
        have c0 : w8.cell? ⟨kR, 0, none⟩ = some (.int .i64 M) := bR.cell 0
        have c1 : w8.cell? ⟨kR, 1, none⟩ = some (.int .i64 B) := bR.cell 1
        have c2 : w8.cell? ⟨kR, 2, none⟩ = some (.int .i64 C) := bR.cell 2
        have c3 : w8.cell? ⟨kR, 3, none⟩ = some (.int .i64 J) := bR.cell 3
        go_wp2_with fail
        go_at_call 12
        refine (works_any _ (HT.out.g gA)).mono ?_
        rintro e0 w99 ⟨rfl, g99⟩
        replace gA := gA.trans g99
        clear g99
        go_wp2_with fail
        go_ret
        exact ⟨rfl, gA⟩
      · rcases Int.lt_or_le z (1) with hz2 | hz2
        · have HA2 : Hid (alB M B C J (1 + j) t (F + z) = true) := Lib.hid (hA2.trans (decide_eq_true (by omega)))
          clear hA2
          go_enter Tryd.func6, Tryd.ntmps6
          go_wp2_with fail
          go_at_call 27
          refine (HMd.out _).mono ?_
          rintro e0 w1 ⟨rfl, g1⟩
          have bR := Blk.new w1 23 #[.int .i64 M, .int .i64 B, .int .i64 C, .int .i64 J]
          have gA : G w (w1.alloc (.cells #[.int .i64 M, .int .i64 B, .int .i64 C, .int .i64 J] 23)) := (((G.refl w).alloc _).trans g1).alloc _
          have hkw : w.heap.size ≤ w1.heap.size := by have := g1.size; rw [World.size_alloc] at this; omega
          clear g1
          have c0 : (w1.alloc (.cells #[.int .i64 M, .int .i64 B, .int .i64 C, .int .i64 J] 23)).cell? ⟨w1.heap.size, 0, none⟩ = some (.int .i64 M) := bR.cell 0
          have c1 : (w1.alloc (.cells #[.int .i64 M, .int .i64 B, .int .i64 C, .int .i64 J] 23)).cell? ⟨w1.heap.size, 1, none⟩ = some (.int .i64 B) := bR.cell 1
          have c2 : (w1.alloc (.cells #[.int .i64 M, .int .i64 B, .int .i64 C, .int .i64 J] 23)).cell? ⟨w1.heap.size, 2, none⟩ = some (.int .i64 C) := bR.cell 2
          have c3 : (w1.alloc (.cells #[.int .i64 M, .int .i64 B, .int .i64 C, .int .i64 J] 23)).cell? ⟨w1.heap.size, 3, none⟩ = some (.int .i64 J) := bR.cell 3
          go_wp2_with fail
          generalize w1.alloc (.cells #[.int .i64 M, .int .i64 B, .int .i64 C, .int .i64 J] 23) = w2 at *
          generalize w1.heap.size = kR at *
          go_at_call 17
          refine (next_any M B C J s _ h (1 + j) t u1 k0 k1 _ (HT.out.g gA)).mono ?_
          rintro e0 w3 ⟨rfl, gx⟩
          rw [HV1.out, HB1.out, HN1.out]
          replace gA := gA.trans gx
          replace bR := bR.g gx
          clear c0 c1 c2 c3 gx
          have c0 : w3.cell? ⟨kR, 0, none⟩ = some (.int .i64 M) := bR.cell 0
          have c1 : w3.cell? ⟨kR, 1, none⟩ = some (.int .i64 B) := bR.cell 1
          have c2 : w3.cell? ⟨kR, 2, none⟩ = some (.int .i64 C) := bR.cell 2
          have c3 : w3.cell? ⟨kR, 3, none⟩ = some (.int .i64 J) := bR.cell 3
          go_wp2_with fail
          go_at_call 21
          refine (earliest_any M B C J (1 + j) t _).mono ?_
          rintro e0 w4 ⟨rfl, gx⟩
          rw [HF1.out, HG1.out]
          replace gA := gA.trans gx
          replace bR := bR.g gx
          clear c0 c1 c2 c3 gx
          have c0 : w4.cell? ⟨kR, 0, none⟩ = some (.int .i64 M) := bR.cell 0
          have c1 : w4.cell? ⟨kR, 1, none⟩ = some (.int .i64 B) := bR.cell 1
          have c2 : w4.cell? ⟨kR, 2, none⟩ = some (.int .i64 C) := bR.cell 2
          have c3 : w4.cell? ⟨kR, 3, none⟩ = some (.int .i64 J) := bR.cell 3
          go_wp2_with fail
          go_at_call 28
          refine (bwait_any M B C J (1 + j) _).mono ?_
          rintro e0 w5 ⟨rfl, gx⟩
          rw [HX.out, HW.out]
          replace gA := gA.trans gx
          replace bR := bR.g gx
          clear c0 c1 c2 c3 gx
          have c0 : w5.cell? ⟨kR, 0, none⟩ = some (.int .i64 M) := bR.cell 0
          have c1 : w5.cell? ⟨kR, 1, none⟩ = some (.int .i64 B) := bR.cell 1
          have c2 : w5.cell? ⟨kR, 2, none⟩ = some (.int .i64 C) := bR.cell 2
          have c3 : w5.cell? ⟨kR, 3, none⟩ = some (.int .i64 J) := bR.cell 3
          go_wp2_with fail
          go_at_call 29
          refine (wait_any s _ h (1 + j) J u1 k0 k1 _ (HT.out.g gA)).mono ?_
          rintro e0 w6 ⟨rfl, gx⟩
          rw [HY.out, HJE.out]
          replace gA := gA.trans gx
          replace bR := bR.g gx
          clear c0 c1 c2 c3 gx
          have c0 : w6.cell? ⟨kR, 0, none⟩ = some (.int .i64 M) := bR.cell 0
          have c1 : w6.cell? ⟨kR, 1, none⟩ = some (.int .i64 B) := bR.cell 1
          have c2 : w6.cell? ⟨kR, 2, none⟩ = some (.int .i64 C) := bR.cell 2
          have c3 : w6.cell? ⟨kR, 3, none⟩ = some (.int .i64 J) := bR.cell 3
          go_wp2_with fail
          go_at_call 23
          refine (allowed_any M B C J (1 + j) t (F + q) (by omega) (by omega) _).mono ?_
          rintro e0 w7 ⟨rfl, gx⟩
          rw [HA1.out, HG1.out]
          replace gA := gA.trans gx
          replace bR := bR.g gx
          clear c0 c1 c2 c3 gx
          have c0 : w7.cell? ⟨kR, 0, none⟩ = some (.int .i64 M) := bR.cell 0
          have c1 : w7.cell? ⟨kR, 1, none⟩ = some (.int .i64 B) := bR.cell 1
          have c2 : w7.cell? ⟨kR, 2, none⟩ = some (.int .i64 C) := bR.cell 2
          have c3 : w7.cell? ⟨kR, 3, none⟩ = some (.int .i64 J) := bR.cell 3
          go_wp2_with fail
          go_at_call 23
          refine (allowed_any M B C J (1 + j) t (F + z) (by omega) (by omega) _).mono ?_
          rintro e0 w8 ⟨rfl, gx⟩
          rw [HA2.out, HG1.out]
          replace gA := gA.trans gx
          replace bR := bR.g gx
          clear c0 c1 c2 c3 gx
          have c0 : w8.cell? ⟨kR, 0, none⟩ = some (.int .i64 M) := bR.cell 0
          have c1 : w8.cell? ⟨kR, 1, none⟩ = some (.int .i64 B) := bR.cell 1
          have c2 : w8.cell? ⟨kR, 2, none⟩ = some (.int .i64 C) := bR.cell 2
          have c3 : w8.cell? ⟨kR, 3, none⟩ = some (.int .i64 J) := bR.cell 3
          go_wp2_with fail
          go_at_call 12
          refine (works_any _ (HT.out.g gA)).mono ?_
          rintro e0 w99 ⟨rfl, g99⟩
          replace gA := gA.trans g99
          clear g99
          go_wp2_with fail
          go_ret
          exact ⟨rfl, gA⟩
        · have HA2 : Hid (alB M B C J (1 + j) t (F + z) = false) := Lib.hid (hA2.trans (decide_eq_false (by omega)))
          have hd : decide (z < 1) = false := by simp; omega
          clear hA2
          go_enter Tryd.func6, Tryd.ntmps6
          go_wp2_with fail
          go_at_call 27
          refine (HMd.out _).mono ?_
          rintro e0 w1 ⟨rfl, g1⟩
          have bR := Blk.new w1 23 #[.int .i64 M, .int .i64 B, .int .i64 C, .int .i64 J]
          have gA : G w (w1.alloc (.cells #[.int .i64 M, .int .i64 B, .int .i64 C, .int .i64 J] 23)) := (((G.refl w).alloc _).trans g1).alloc _
          have hkw : w.heap.size ≤ w1.heap.size := by have := g1.size; rw [World.size_alloc] at this; omega
          clear g1
          have c0 : (w1.alloc (.cells #[.int .i64 M, .int .i64 B, .int .i64 C, .int .i64 J] 23)).cell? ⟨w1.heap.size, 0, none⟩ = some (.int .i64 M) := bR.cell 0
          have c1 : (w1.alloc (.cells #[.int .i64 M, .int .i64 B, .int .i64 C, .int .i64 J] 23)).cell? ⟨w1.heap.size, 1, none⟩ = some (.int .i64 B) := bR.cell 1
          have c2 : (w1.alloc (.cells #[.int .i64 M, .int .i64 B, .int .i64 C, .int .i64 J] 23)).cell? ⟨w1.heap.size, 2, none⟩ = some (.int .i64 C) := bR.cell 2
          have c3 : (w1.alloc (.cells #[.int .i64 M, .int .i64 B, .int .i64 C, .int .i64 J] 23)).cell? ⟨w1.heap.size, 3, none⟩ = some (.int .i64 J) := bR.cell 3
          go_wp2_with fail
          generalize w1.alloc (.cells #[.int .i64 M, .int .i64 B, .int .i64 C, .int .i64 J] 23) = w2 at *
          generalize w1.heap.size = kR at *
          go_at_call 17
          refine (next_any M B C J s _ h (1 + j) t u1 k0 k1 _ (HT.out.g gA)).mono ?_
          rintro e0 w3 ⟨rfl, gx⟩
          rw [HV1.out, HB1.out, HN1.out]
          replace gA := gA.trans gx
          replace bR := bR.g gx
          clear c0 c1 c2 c3 gx
          have c0 : w3.cell? ⟨kR, 0, none⟩ = some (.int .i64 M) := bR.cell 0
          have c1 : w3.cell? ⟨kR, 1, none⟩ = some (.int .i64 B) := bR.cell 1
          have c2 : w3.cell? ⟨kR, 2, none⟩ = some (.int .i64 C) := bR.cell 2
          have c3 : w3.cell? ⟨kR, 3, none⟩ = some (.int .i64 J) := bR.cell 3
          go_wp2_with fail
          go_at_call 21
          refine (earliest_any M B C J (1 + j) t _).mono ?_
          rintro e0 w4 ⟨rfl, gx⟩
          rw [HF1.out, HG1.out]
          replace gA := gA.trans gx
          replace bR := bR.g gx
          clear c0 c1 c2 c3 gx
          have c0 : w4.cell? ⟨kR, 0, none⟩ = some (.int .i64 M) := bR.cell 0
          have c1 : w4.cell? ⟨kR, 1, none⟩ = some (.int .i64 B) := bR.cell 1
          have c2 : w4.cell? ⟨kR, 2, none⟩ = some (.int .i64 C) := bR.cell 2
          have c3 : w4.cell? ⟨kR, 3, none⟩ = some (.int .i64 J) := bR.cell 3
          go_wp2_with fail
          go_at_call 28
          refine (bwait_any M B C J (1 + j) _).mono ?_
          rintro e0 w5 ⟨rfl, gx⟩
          rw [HX.out, HW.out]
          replace gA := gA.trans gx
          replace bR := bR.g gx
          clear c0 c1 c2 c3 gx
          have c0 : w5.cell? ⟨kR, 0, none⟩ = some (.int .i64 M) := bR.cell 0
          have c1 : w5.cell? ⟨kR, 1, none⟩ = some (.int .i64 B) := bR.cell 1
          have c2 : w5.cell? ⟨kR, 2, none⟩ = some (.int .i64 C) := bR.cell 2
          have c3 : w5.cell? ⟨kR, 3, none⟩ = some (.int .i64 J) := bR.cell 3
          go_wp2_with fail
          go_at_call 29
          refine (wait_any s _ h (1 + j) J u1 k0 k1 _ (HT.out.g gA)).mono ?_
          rintro e0 w6 ⟨rfl, gx⟩
          rw [HY.out, HJE.out]
          replace gA := gA.trans gx
          replace bR := bR.g gx
          clear c0 c1 c2 c3 gx
          have c0 : w6.cell? ⟨kR, 0, none⟩ = some (.int .i64 M) := bR.cell 0
          have c1 : w6.cell? ⟨kR, 1, none⟩ = some (.int .i64 B) := bR.cell 1
          have c2 : w6.cell? ⟨kR, 2, none⟩ = some (.int .i64 C) := bR.cell 2
          have c3 : w6.cell? ⟨kR, 3, none⟩ = some (.int .i64 J) := bR.cell 3
          go_wp2_with fail
          go_at_call 23
          refine (allowed_any M B C J (1 + j) t (F + q) (by omega) (by omega) _).mono ?_
          rintro e0 w7 ⟨rfl, gx⟩
          rw [HA1.out, HG1.out]
          replace gA := gA.trans gx
          replace bR := bR.g gx
          clear c0 c1 c2 c3 gx
          have c0 : w7.cell? ⟨kR, 0, none⟩ = some (.int .i64 M) := bR.cell 0
          have c1 : w7.cell? ⟨kR, 1, none⟩ = some (.int .i64 B) := bR.cell 1
          have c2 : w7.cell? ⟨kR, 2, none⟩ = some (.int .i64 C) := bR.cell 2
          have c3 : w7.cell? ⟨kR, 3, none⟩ = some (.int .i64 J) := bR.cell 3
          go_wp2_with fail
          go_at_call 23
          refine (allowed_any M B C J (1 + j) t (F + z) (by omega) (by omega) _).mono ?_
          rintro e0 w8 ⟨rfl, gx⟩
          rw [HA2.out, HG1.out]
          replace gA := gA.trans gx
          replace bR := bR.g gx
          clear c0 c1 c2 c3 gx
          have c0 : w8.cell? ⟨kR, 0, none⟩ = some (.int .i64 M) := bR.cell 0
          have c1 : w8.cell? ⟨kR, 1, none⟩ = some (.int .i64 B) := bR.cell 1
          have c2 : w8.cell? ⟨kR, 2, none⟩ = some (.int .i64 C) := bR.cell 2
          have c3 : w8.cell? ⟨kR, 3, none⟩ = some (.int .i64 J) := bR.cell 3
          go_wp2_with fail
          go_at_call 12
          refine (works_any _ (HT.out.g gA)).mono ?_
          rintro e0 w99 ⟨rfl, g99⟩
          replace gA := gA.trans g99
          clear g99
          go_wp2_with fail
          go_ret
          exact ⟨rfl, gA⟩
    · have q3 : F + q < F + J := by omega
      have q4 : q < J := by omega
      have hxx : F + q - F = q := by omega
      clear q1
      rcases Int.lt_or_le z 0 with hz | hz
      · have HA2 : Hid (alB M B C J (1 + j) t (F + z) = false) := Lib.hid (hA2.trans (decide_eq_false (by omega)))
        clear hA2
        go_enter Tryd.func6, Tryd.ntmps6
        go_wp2_with fail
        go_at_call 27
        refine (HMd.out _).mono ?_
        rintro e0 w1 ⟨rfl, g1⟩
        have bR := Blk.new w1 23 #[.int .i64 M, .int .i64 B, .int .i64 C, .int .i64 J]
        have gA : G w (w1.alloc (.cells #[.int .i64 M, .int .i64 B, .int .i64 C, .int .i64 J] 23)) := (((G.refl w).alloc _).trans g1).alloc _
        have hkw : w.heap.size ≤ w1.heap.size := by have := g1.size; rw [World.size_alloc] at this; omega
        clear g1
        have c0 : (w1.alloc (.cells #[.int .i64 M, .int .i64 B, .int .i64 C, .int .i64 J] 23)).cell? ⟨w1.heap.size, 0, none⟩ = some (.int .i64 M) := bR.cell 0
        have c1 : (w1.alloc (.cells #[.int .i64 M, .int .i64 B, .int .i64 C, .int .i64 J] 23)).cell? ⟨w1.heap.size, 1, none⟩ = some (.int .i64 B) := bR.cell 1
        have c2 : (w1.alloc (.cells #[.int .i64 M, .int .i64 B, .int .i64 C, .int .i64 J] 23)).cell? ⟨w1.heap.size, 2, none⟩ = some (.int .i64 C) := bR.cell 2
        have c3 : (w1.alloc (.cells #[.int .i64 M, .int .i64 B, .int .i64 C, .int .i64 J] 23)).cell? ⟨w1.heap.size, 3, none⟩ = some (.int .i64 J) := bR.cell 3
        go_wp2_with fail
        generalize w1.alloc (.cells #[.int .i64 M, .int .i64 B, .int .i64 C, .int .i64 J] 23) = w2 at *
        generalize w1.heap.size = kR at *
        go_at_call 17
        refine (next_any M B C J s _ h (1 + j) t u1 k0 k1 _ (HT.out.g gA)).mono ?_
        rintro e0 w3 ⟨rfl, gx⟩
        rw [HV1.out, HB1.out, HN1.out]
        replace gA := gA.trans gx
        replace bR := bR.g gx
        clear c0 c1 c2 c3 gx
        have c0 : w3.cell? ⟨kR, 0, none⟩ = some (.int .i64 M) := bR.cell 0
        have c1 : w3.cell? ⟨kR, 1, none⟩ = some (.int .i64 B) := bR.cell 1
        have c2 : w3.cell? ⟨kR, 2, none⟩ = some (.int .i64 C) := bR.cell 2
        have c3 : w3.cell? ⟨kR, 3, none⟩ = some (.int .i64 J) := bR.cell 3
        go_wp2_with fail
        go_at_call 21
        refine (earliest_any M B C J (1 + j) t _).mono ?_
        rintro e0 w4 ⟨rfl, gx⟩
        rw [HF1.out, HG1.out]
        replace gA := gA.trans gx
        replace bR := bR.g gx
        clear c0 c1 c2 c3 gx
        have c0 : w4.cell? ⟨kR, 0, none⟩ = some (.int .i64 M) := bR.cell 0
        have c1 : w4.cell? ⟨kR, 1, none⟩ = some (.int .i64 B) := bR.cell 1
        have c2 : w4.cell? ⟨kR, 2, none⟩ = some (.int .i64 C) := bR.cell 2
        have c3 : w4.cell? ⟨kR, 3, none⟩ = some (.int .i64 J) := bR.cell 3
        go_wp2_with fail
        go_at_call 28
        refine (bwait_any M B C J (1 + j) _).mono ?_
        rintro e0 w5 ⟨rfl, gx⟩
        rw [HX.out, HW.out]
        replace gA := gA.trans gx
        replace bR := bR.g gx
        clear c0 c1 c2 c3 gx
        have c0 : w5.cell? ⟨kR, 0, none⟩ = some (.int .i64 M) := bR.cell 0
        have c1 : w5.cell? ⟨kR, 1, none⟩ = some (.int .i64 B) := bR.cell 1
        have c2 : w5.cell? ⟨kR, 2, none⟩ = some (.int .i64 C) := bR.cell 2
        have c3 : w5.cell? ⟨kR, 3, none⟩ = some (.int .i64 J) := bR.cell 3
        go_wp2_with fail
        go_at_call 29
        refine (wait_any s _ h (1 + j) J u1 k0 k1 _ (HT.out.g gA)).mono ?_
        rintro e0 w6 ⟨rfl, gx⟩
        rw [HY.out, HJE.out]
        replace gA := gA.trans gx
        replace bR := bR.g gx
        clear c0 c1 c2 c3 gx
        have c0 : w6.cell? ⟨kR, 0, none⟩ = some (.int .i64 M) := bR.cell 0
        have c1 : w6.cell? ⟨kR, 1, none⟩ = some (.int .i64 B) := bR.cell 1
        have c2 : w6.cell? ⟨kR, 2, none⟩ = some (.int .i64 C) := bR.cell 2
        have c3 : w6.cell? ⟨kR, 3, none⟩ = some (.int .i64 J) := bR.cell 3
        go_wp2_with fail
        go_at_call 23
        refine (allowed_any M B C J (1 + j) t (F + q) (by omega) (by omega) _).mono ?_
        rintro e0 w7 ⟨rfl, gx⟩
        rw [HA1.out, HG1.out]
        replace gA := gA.trans gx
        replace bR := bR.g gx
        clear c0 c1 c2 c3 gx
        have c0 : w7.cell? ⟨kR, 0, none⟩ = some (.int .i64 M) := bR.cell 0
        have c1 : w7.cell? ⟨kR, 1, none⟩ = some (.int .i64 B) := bR.cell 1
        have c2 : w7.cell? ⟨kR, 2, none⟩ = some (.int .i64 C) := bR.cell 2
        have c3 : w7.cell? ⟨kR, 3, none⟩ = some (.int .i64 J) := bR.cell 3
        go_wp2_with fail
        go_at_call 23
        refine (allowed_any M B C J (1 + j) t (F + z) (by omega) (by omega) _).mono ?_
        rintro e0 w8 ⟨rfl, gx⟩
        rw [HA2.out, HG1.out]
        replace gA := gA.trans gx
        replace bR := bR.g gx
        clear c0 c1 c2 c3 gx
        have c0 : w8.cell? ⟨kR, 0, none⟩ = some (.int .i64 M) := bR.cell 0
        have c1 : w8.cell? ⟨kR, 1, none⟩ = some (.int .i64 B) := bR.cell 1
        have c2 : w8.cell? ⟨kR, 2, none⟩ = some (.int .i64 C) := bR.cell 2
        have c3 : w8.cell? ⟨kR, 3, none⟩ = some (.int .i64 J) := bR.cell 3
        go_wp2_with fail
        go_at_call 12
        refine (works_any _ (HT.out.g gA)).mono ?_
        rintro e0 w99 ⟨rfl, g99⟩
        replace gA := gA.trans g99
        clear g99
        go_wp2_with fail
        go_ret
        exact ⟨rfl, gA⟩
      · rcases Int.lt_or_le z (J) with hz2 | hz2
        · have HA2 : Hid (alB M B C J (1 + j) t (F + z) = true) := Lib.hid (hA2.trans (decide_eq_true (by omega)))
          clear hA2
          go_enter Tryd.func6, Tryd.ntmps6
          go_wp2_with fail
          go_at_call 27
          refine (HMd.out _).mono ?_
          rintro e0 w1 ⟨rfl, g1⟩
          have bR := Blk.new w1 23 #[.int .i64 M, .int .i64 B, .int .i64 C, .int .i64 J]
          have gA : G w (w1.alloc (.cells #[.int .i64 M, .int .i64 B, .int .i64 C, .int .i64 J] 23)) := (((G.refl w).alloc _).trans g1).alloc _
          have hkw : w.heap.size ≤ w1.heap.size := by have := g1.size; rw [World.size_alloc] at this; omega
          clear g1
          have c0 : (w1.alloc (.cells #[.int .i64 M, .int .i64 B, .int .i64 C, .int .i64 J] 23)).cell? ⟨w1.heap.size, 0, none⟩ = some (.int .i64 M) := bR.cell 0
          have c1 : (w1.alloc (.cells #[.int .i64 M, .int .i64 B, .int .i64 C, .int .i64 J] 23)).cell? ⟨w1.heap.size, 1, none⟩ = some (.int .i64 B) := bR.cell 1
          have c2 : (w1.alloc (.cells #[.int .i64 M, .int .i64 B, .int .i64 C, .int .i64 J] 23)).cell? ⟨w1.heap.size, 2, none⟩ = some (.int .i64 C) := bR.cell 2
          have c3 : (w1.alloc (.cells #[.int .i64 M, .int .i64 B, .int .i64 C, .int .i64 J] 23)).cell? ⟨w1.heap.size, 3, none⟩ = some (.int .i64 J) := bR.cell 3
          go_wp2_with fail
          generalize w1.alloc (.cells #[.int .i64 M, .int .i64 B, .int .i64 C, .int .i64 J] 23) = w2 at *
          generalize w1.heap.size = kR at *
          go_at_call 17
          refine (next_any M B C J s _ h (1 + j) t u1 k0 k1 _ (HT.out.g gA)).mono ?_
          rintro e0 w3 ⟨rfl, gx⟩
          rw [HV1.out, HB1.out, HN1.out]
          replace gA := gA.trans gx
          replace bR := bR.g gx
          clear c0 c1 c2 c3 gx
          have c0 : w3.cell? ⟨kR, 0, none⟩ = some (.int .i64 M) := bR.cell 0
          have c1 : w3.cell? ⟨kR, 1, none⟩ = some (.int .i64 B) := bR.cell 1
          have c2 : w3.cell? ⟨kR, 2, none⟩ = some (.int .i64 C) := bR.cell 2
          have c3 : w3.cell? ⟨kR, 3, none⟩ = some (.int .i64 J) := bR.cell 3
          go_wp2_with fail
          go_at_call 21
          refine (earliest_any M B C J (1 + j) t _).mono ?_
          rintro e0 w4 ⟨rfl, gx⟩
          rw [HF1.out, HG1.out]
          replace gA := gA.trans gx
          replace bR := bR.g gx
          clear c0 c1 c2 c3 gx
          have c0 : w4.cell? ⟨kR, 0, none⟩ = some (.int .i64 M) := bR.cell 0
          have c1 : w4.cell? ⟨kR, 1, none⟩ = some (.int .i64 B) := bR.cell 1
          have c2 : w4.cell? ⟨kR, 2, none⟩ = some (.int .i64 C) := bR.cell 2
          have c3 : w4.cell? ⟨kR, 3, none⟩ = some (.int .i64 J) := bR.cell 3
          go_wp2_with fail
          go_at_call 28
          refine (bwait_any M B C J (1 + j) _).mono ?_
          rintro e0 w5 ⟨rfl, gx⟩
          rw [HX.out, HW.out]
          replace gA := gA.trans gx
          replace bR := bR.g gx
          clear c0 c1 c2 c3 gx
          have c0 : w5.cell? ⟨kR, 0, none⟩ = some (.int .i64 M) := bR.cell 0
          have c1 : w5.cell? ⟨kR, 1, none⟩ = some (.int .i64 B) := bR.cell 1
          have c2 : w5.cell? ⟨kR, 2, none⟩ = some (.int .i64 C) := bR.cell 2
          have c3 : w5.cell? ⟨kR, 3, none⟩ = some (.int .i64 J) := bR.cell 3
          go_wp2_with fail
          go_at_call 29
          refine (wait_any s _ h (1 + j) J u1 k0 k1 _ (HT.out.g gA)).mono ?_
          rintro e0 w6 ⟨rfl, gx⟩
          rw [HY.out, HJE.out]
          replace gA := gA.trans gx
          replace bR := bR.g gx
          clear c0 c1 c2 c3 gx
          have c0 : w6.cell? ⟨kR, 0, none⟩ = some (.int .i64 M) := bR.cell 0
          have c1 : w6.cell? ⟨kR, 1, none⟩ = some (.int .i64 B) := bR.cell 1
          have c2 : w6.cell? ⟨kR, 2, none⟩ = some (.int .i64 C) := bR.cell 2
          have c3 : w6.cell? ⟨kR, 3, none⟩ = some (.int .i64 J) := bR.cell 3
          go_wp2_with fail
          go_at_call 23
          refine (allowed_any M B C J (1 + j) t (F + q) (by omega) (by omega) _).mono ?_
          rintro e0 w7 ⟨rfl, gx⟩
          rw [HA1.out, HG1.out]
          replace gA := gA.trans gx
          replace bR := bR.g gx
          clear c0 c1 c2 c3 gx
          have c0 : w7.cell? ⟨kR, 0, none⟩ = some (.int .i64 M) := bR.cell 0
          have c1 : w7.cell? ⟨kR, 1, none⟩ = some (.int .i64 B) := bR.cell 1
          have c2 : w7.cell? ⟨kR, 2, none⟩ = some (.int .i64 C) := bR.cell 2
          have c3 : w7.cell? ⟨kR, 3, none⟩ = some (.int .i64 J) := bR.cell 3
          go_wp2_with fail
          go_at_call 23
          refine (allowed_any M B C J (1 + j) t (F + z) (by omega) (by omega) _).mono ?_
          rintro e0 w8 ⟨rfl, gx⟩
          rw [HA2.out, HG1.out]
          replace gA := gA.trans gx
          replace bR := bR.g gx
          clear c0 c1 c2 c3 gx
          have c0 : w8.cell? ⟨kR, 0, none⟩ = some (.int .i64 M) := bR.cell 0
          have c1 : w8.cell? ⟨kR, 1, none⟩ = some (.int .i64 B) := bR.cell 1
          have c2 : w8.cell? ⟨kR, 2, none⟩ = some (.int .i64 C) := bR.cell 2
          have c3 : w8.cell? ⟨kR, 3, none⟩ = some (.int .i64 J) := bR.cell 3
          go_wp2_with fail
          go_at_call 12
          refine (works_any _ (HT.out.g gA)).mono ?_
          rintro e0 w99 ⟨rfl, g99⟩
          replace gA := gA.trans g99
          clear g99
          go_wp2_with fail
          go_ret
          exact ⟨rfl, gA⟩
        · have HA2 : Hid (alB M B C J (1 + j) t (F + z) = false) := Lib.hid (hA2.trans (decide_eq_false (by omega)))
          have hd : decide (z < J) = false := by simp; omega
          clear hA2
          go_enter Tryd.func6, Tryd.ntmps6
          go_wp2_with fail
          go_at_call 27
          refine (HMd.out _).mono ?_
          rintro e0 w1 ⟨rfl, g1⟩
          have bR := Blk.new w1 23 #[.int .i64 M, .int .i64 B, .int .i64 C, .int .i64 J]
          have gA : G w (w1.alloc (.cells #[.int .i64 M, .int .i64 B, .int .i64 C, .int .i64 J] 23)) := (((G.refl w).alloc _).trans g1).alloc _
          have hkw : w.heap.size ≤ w1.heap.size := by have := g1.size; rw [World.size_alloc] at this; omega
          clear g1
          have c0 : (w1.alloc (.cells #[.int .i64 M, .int .i64 B, .int .i64 C, .int .i64 J] 23)).cell? ⟨w1.heap.size, 0, none⟩ = some (.int .i64 M) := bR.cell 0
          have c1 : (w1.alloc (.cells #[.int .i64 M, .int .i64 B, .int .i64 C, .int .i64 J] 23)).cell? ⟨w1.heap.size, 1, none⟩ = some (.int .i64 B) := bR.cell 1
          have c2 : (w1.alloc (.cells #[.int .i64 M, .int .i64 B, .int .i64 C, .int .i64 J] 23)).cell? ⟨w1.heap.size, 2, none⟩ = some (.int .i64 C) := bR.cell 2
          have c3 : (w1.alloc (.cells #[.int .i64 M, .int .i64 B, .int .i64 C, .int .i64 J] 23)).cell? ⟨w1.heap.size, 3, none⟩ = some (.int .i64 J) := bR.cell 3
          go_wp2_with fail
          generalize w1.alloc (.cells #[.int .i64 M, .int .i64 B, .int .i64 C, .int .i64 J] 23) = w2 at *
          generalize w1.heap.size = kR at *
          go_at_call 17
          refine (next_any M B C J s _ h (1 + j) t u1 k0 k1 _ (HT.out.g gA)).mono ?_
          rintro e0 w3 ⟨rfl, gx⟩
          rw [HV1.out, HB1.out, HN1.out]
          replace gA := gA.trans gx
          replace bR := bR.g gx
          clear c0 c1 c2 c3 gx
          have c0 : w3.cell? ⟨kR, 0, none⟩ = some (.int .i64 M) := bR.cell 0
          have c1 : w3.cell? ⟨kR, 1, none⟩ = some (.int .i64 B) := bR.cell 1
          have c2 : w3.cell? ⟨kR, 2, none⟩ = some (.int .i64 C) := bR.cell 2
          have c3 : w3.cell? ⟨kR, 3, none⟩ = some (.int .i64 J) := bR.cell 3
          go_wp2_with fail
          go_at_call 21
          refine (earliest_any M B C J (1 + j) t _).mono ?_
          rintro e0 w4 ⟨rfl, gx⟩
          rw [HF1.out, HG1.out]
          replace gA := gA.trans gx
          replace bR := bR.g gx
          clear c0 c1 c2 c3 gx
          have c0 : w4.cell? ⟨kR, 0, none⟩ = some (.int .i64 M) := bR.cell 0
          have c1 : w4.cell? ⟨kR, 1, none⟩ = some (.int .i64 B) := bR.cell 1
          have c2 : w4.cell? ⟨kR, 2, none⟩ = some (.int .i64 C) := bR.cell 2
          have c3 : w4.cell? ⟨kR, 3, none⟩ = some (.int .i64 J) := bR.cell 3
          go_wp2_with fail
          go_at_call 28
          refine (bwait_any M B C J (1 + j) _).mono ?_
          rintro e0 w5 ⟨rfl, gx⟩
          rw [HX.out, HW.out]
          replace gA := gA.trans gx
          replace bR := bR.g gx
          clear c0 c1 c2 c3 gx
          have c0 : w5.cell? ⟨kR, 0, none⟩ = some (.int .i64 M) := bR.cell 0
          have c1 : w5.cell? ⟨kR, 1, none⟩ = some (.int .i64 B) := bR.cell 1
          have c2 : w5.cell? ⟨kR, 2, none⟩ = some (.int .i64 C) := bR.cell 2
          have c3 : w5.cell? ⟨kR, 3, none⟩ = some (.int .i64 J) := bR.cell 3
          go_wp2_with fail
          go_at_call 29
          refine (wait_any s _ h (1 + j) J u1 k0 k1 _ (HT.out.g gA)).mono ?_
          rintro e0 w6 ⟨rfl, gx⟩
          rw [HY.out, HJE.out]
          replace gA := gA.trans gx
          replace bR := bR.g gx
          clear c0 c1 c2 c3 gx
          have c0 : w6.cell? ⟨kR, 0, none⟩ = some (.int .i64 M) := bR.cell 0
          have c1 : w6.cell? ⟨kR, 1, none⟩ = some (.int .i64 B) := bR.cell 1
          have c2 : w6.cell? ⟨kR, 2, none⟩ = some (.int .i64 C) := bR.cell 2
          have c3 : w6.cell? ⟨kR, 3, none⟩ = some (.int .i64 J) := bR.cell 3
          go_wp2_with fail
          go_at_call 23
          refine (allowed_any M B C J (1 + j) t (F + q) (by omega) (by omega) _).mono ?_
          rintro e0 w7 ⟨rfl, gx⟩
          rw [HA1.out, HG1.out]
          replace gA := gA.trans gx
          replace bR := bR.g gx
          clear c0 c1 c2 c3 gx
          have c0 : w7.cell? ⟨kR, 0, none⟩ = some (.int .i64 M) := bR.cell 0
          have c1 : w7.cell? ⟨kR, 1, none⟩ = some (.int .i64 B) := bR.cell 1
          have c2 : w7.cell? ⟨kR, 2, none⟩ = some (.int .i64 C) := bR.cell 2
          have c3 : w7.cell? ⟨kR, 3, none⟩ = some (.int .i64 J) := bR.cell 3
          go_wp2_with fail
          go_at_call 23
          refine (allowed_any M B C J (1 + j) t (F + z) (by omega) (by omega) _).mono ?_
          rintro e0 w8 ⟨rfl, gx⟩
          rw [HA2.out, HG1.out]
          replace gA := gA.trans gx
          replace bR := bR.g gx
          clear c0 c1 c2 c3 gx
          have c0 : w8.cell? ⟨kR, 0, none⟩ = some (.int .i64 M) := bR.cell 0
          have c1 : w8.cell? ⟨kR, 1, none⟩ = some (.int .i64 B) := bR.cell 1
          have c2 : w8.cell? ⟨kR, 2, none⟩ = some (.int .i64 C) := bR.cell 2
          have c3 : w8.cell? ⟨kR, 3, none⟩ = some (.int .i64 J) := bR.cell 3
          go_wp2_with fail
          go_at_call 12
          refine (works_any _ (HT.out.g gA)).mono ?_
          rintro e0 w99 ⟨rfl, g99⟩
          replace gA := gA.trans g99
          clear g99
          go_wp2_with fail
          go_ret
          exact ⟨rfl, gA⟩
  · have HB1 : Hid (nxB M B C J ⟨#[115, 111, 109, 101, 45, 106, 111, 98]⟩ h (1 + j) t = false) := Lib.hid (decide_eq_false (fun h => by have := h.2; omega))
    have HV1 : Hid (nxV M B C J s ⟨#[115, 111, 109, 101, 45, 106, 111, 98]⟩ h (1 + j) t = 0) := Lib.hid (if_neg (by rw [HB1.out]; decide))
    have hW : waitE M B C J (1 + j) = 3 := by unfold waitE; rw [if_pos hok, if_neg (by omega)]
    have HG1 : Hid (erE M B C J (1 + j) t = 3) := Lib.hid (by unfold erE; rw [if_pos hok, if_pos (by unfold tmB; omega), hW])
    have HF1 : Hid (erV M B C J (1 + j) t = 0) := Lib.hid (if_neg (by rw [HG1.out]; decide))
    have HA1 : Hid (alB M B C J (1 + j) t t = false) := Lib.hid (by unfold alB; rw [HG1.out]; exact decide_eq_false (fun h => by have := h.1; omega))
    clear hok hW
    go_enter Tryd.func6, Tryd.ntmps6
    go_wp2_with fail
    go_at_call 27
    refine (HMd.out _).mono ?_
    rintro e0 w1 ⟨rfl, g1⟩
    have bR := Blk.new w1 23 #[.int .i64 M, .int .i64 B, .int .i64 C, .int .i64 J]
    have gA : G w (w1.alloc (.cells #[.int .i64 M, .int .i64 B, .int .i64 C, .int .i64 J] 23)) := (((G.refl w).alloc _).trans g1).alloc _
    have hkw : w.heap.size ≤ w1.heap.size := by have := g1.size; rw [World.size_alloc] at this; omega
    clear g1
    have c0 : (w1.alloc (.cells #[.int .i64 M, .int .i64 B, .int .i64 C, .int .i64 J] 23)).cell? ⟨w1.heap.size, 0, none⟩ = some (.int .i64 M) := bR.cell 0
    have c1 : (w1.alloc (.cells #[.int .i64 M, .int .i64 B, .int .i64 C, .int .i64 J] 23)).cell? ⟨w1.heap.size, 1, none⟩ = some (.int .i64 B) := bR.cell 1
    have c2 : (w1.alloc (.cells #[.int .i64 M, .int .i64 B, .int .i64 C, .int .i64 J] 23)).cell? ⟨w1.heap.size, 2, none⟩ = some (.int .i64 C) := bR.cell 2
    have c3 : (w1.alloc (.cells #[.int .i64 M, .int .i64 B, .int .i64 C, .int .i64 J] 23)).cell? ⟨w1.heap.size, 3, none⟩ = some (.int .i64 J) := bR.cell 3
    go_wp2_with fail
    generalize w1.alloc (.cells #[.int .i64 M, .int .i64 B, .int .i64 C, .int .i64 J] 23) = w2 at *
    generalize w1.heap.size = kR at *
    go_at_call 17
    refine (next_any M B C J s _ h (1 + j) t u1 k0 k1 _ (HT.out.g gA)).mono ?_
    rintro e0 w3 ⟨rfl, gx⟩
    rw [HV1.out, HB1.out, HN1.out]
    replace gA := gA.trans gx
    replace bR := bR.g gx
    clear c0 c1 c2 c3 gx
    have c0 : w3.cell? ⟨kR, 0, none⟩ = some (.int .i64 M) := bR.cell 0
    have c1 : w3.cell? ⟨kR, 1, none⟩ = some (.int .i64 B) := bR.cell 1
    have c2 : w3.cell? ⟨kR, 2, none⟩ = some (.int .i64 C) := bR.cell 2
    have c3 : w3.cell? ⟨kR, 3, none⟩ = some (.int .i64 J) := bR.cell 3
    go_wp2_with fail
    go_at_call 21
    refine (earliest_any M B C J (1 + j) t _).mono ?_
    rintro e0 w4 ⟨rfl, gx⟩
    rw [HF1.out, HG1.out]
    replace gA := gA.trans gx
    replace bR := bR.g gx
    clear c0 c1 c2 c3 gx
    have c0 : w4.cell? ⟨kR, 0, none⟩ = some (.int .i64 M) := bR.cell 0
    have c1 : w4.cell? ⟨kR, 1, none⟩ = some (.int .i64 B) := bR.cell 1
    have c2 : w4.cell? ⟨kR, 2, none⟩ = some (.int .i64 C) := bR.cell 2
    have c3 : w4.cell? ⟨kR, 3, none⟩ = some (.int .i64 J) := bR.cell 3
    go_wp2_with fail
    go_at_call 23
    refine (allowed_any M B C J (1 + j) t t (by omega) (by omega) _).mono ?_
    rintro e0 w5 ⟨rfl, gx⟩
    rw [HA1.out, HG1.out]
    replace gA := gA.trans gx
    replace bR := bR.g gx
    clear c0 c1 c2 c3 gx
    have c0 : w5.cell? ⟨kR, 0, none⟩ = some (.int .i64 M) := bR.cell 0
    have c1 : w5.cell? ⟨kR, 1, none⟩ = some (.int .i64 B) := bR.cell 1
    have c2 : w5.cell? ⟨kR, 2, none⟩ = some (.int .i64 C) := bR.cell 2
    have c3 : w5.cell? ⟨kR, 3, none⟩ = some (.int .i64 J) := bR.cell 3
    go_wp2_with fail
    go_at_call 12
    refine (works_any _ (HT.out.g gA)).mono ?_
    rintro e0 w99 ⟨rfl, g99⟩
    replace gA := gA.trans g99
    clear g99
    go_wp2_with fail
    go_ret
    exact ⟨rfl, gA⟩

set_option maxRecDepth 4000 in
set_option maxHeartbeats 2000000 in
theorem contract (H : Type) (enc : TypeId × Value → H) (W : World) (base : Nat) (args : Array Value) (ds gs : List (DataW H)) (before : List MemPlace)
    (hval : ∀ (j : Nat) t v, Tryd.f6.params[j]? = some t → args[j]? = some v → Value.okWide Tryd.prog W .any base t v)
    (hW : DataW.Whole enc Tryd.prog Tryd.f6.params.toList Rows.retryWithinSpec.vars false W args.toList ds gs before) (hL : laidMetH Tryd.prog Rows.retryWithinRow.laid W) :
    Calls Tryd.prog 6 args W fun e W' => ∃ v, e = .returned v ∧ Rows.retryWithinSpec.post enc Tryd.prog Tryd.f6 false true false false W args v W' := by
  have hW' := hW
  obtain ⟨p, q, hA0, hV, rfl, hfz, hnd⟩ := hW
  have hA : DataW.TrodAll enc Tryd.prog W 0 (fun _ => true) true Tryd.f6.params.toList args.toList ds p := hA0
  rw [Tryd.params6] at hA hval
  obtain ⟨v0, vs0, d0, ds0, p0, q0, hargs, rfl, rfl, h0, r0⟩ := trodAll_cons hA
  obtain ⟨v1, vs1, d1, ds1, p1, q1, rfl, rfl, rfl, h1, r1⟩ := trodAll_cons r0
  obtain ⟨v2, vs2, d2, ds2, p2, q2, rfl, rfl, rfl, h2, r2⟩ := trodAll_cons r1
  obtain ⟨v3, vs3, d3, ds3, p3, q3, rfl, rfl, rfl, h3, r3⟩ := trodAll_cons r2
  obtain ⟨v4, vs4, d4, ds4, p4, q4, rfl, rfl, rfl, h4, r4⟩ := trodAll_cons r3
  obtain ⟨rfl, rfl, rfl⟩ := trodAll_nil r4
  obtain rfl : args = #[v0, v1, v2, v3, v4] := by first | exact Array.ext' hargs | (cases args; simp_all)
  obtain ⟨a0, b0, c0, e0, rfl, ra0, rb0, rc0, re0⟩ := open_small (hval 0 48 v0 rfl rfl) h0
  obtain ⟨a1, rfl, rfl, rfl, w1⟩ := open_int Tryd.underlying24 (hval 1 24 v1 rfl rfl) h1
  simp [Lit.wf, IntKind.min, IntKind.max, IntKind.bits, IntKind.signed] at w1
  obtain ⟨a2, rfl, rfl, rfl, w2⟩ := open_int Tryd.underlying5 (hval 2 5 v2 rfl rfl) h2
  simp [Lit.wf, IntKind.min, IntKind.max, IntKind.bits, IntKind.signed] at w2
  obtain ⟨a3, rfl, rfl, rfl, w3⟩ := open_int Tryd.underlying49 (hval 3 49 v3 rfl rfl) h3
  simp [Lit.wf, IntKind.min, IntKind.max, IntKind.bits, IntKind.signed] at w3
  obtain ⟨a4, rfl, rfl, rfl, w4⟩ := open_int Tryd.underlying50 (hval 4 50 v4 rfl rfl) h4
  simp [Lit.wf, IntKind.min, IntKind.max, IntKind.bits, IntKind.signed] at w4
  refine (walk (w := W) a0 b0 c0 e0 ra0 rb0 rc0 re0 a1 (by omega) (by omega) a2 (by omega) (by omega) a3 (by omega) (by omega) a4 (by omega) (by omega) (tab_of hL)).mono fun e W' ⟨he, hg⟩ => ?_
  subst he
  exact ⟨_, rfl, law_post laidOut_ (by
    intro t ht
    rw [Tryd.params6] at ht
    simp at ht
    rcases ht with rfl | rfl | rfl | rfl | rfl <;> exact ⟨by kernel_rfl, by decide +kernel⟩) hW' rfl rfl (by kernel_rfl) Tryd.underlying4 hg⟩
theorem laid_met (os : Os) : laidMet Tryd.prog Rows.retryWithinRow.laid ((laidWorld os).forCall (fun _ _ => 0) ⟨#[], #[.agg #[.int .u8 0, .int .u16 0, .int .u16 0, .int .u16 0], .int .u64 0, .int .u8 0, .int .u32 0, .int .i16 0], []⟩).memory :=
  laidMet_of_run' 8 (by kernel_rfl) (by kernel_rfl)
theorem reads (os : Os) {H : Type} (enc : TypeId × Value → H) : ∃ places, DataW.whole enc Tryd.prog ((laidWorld os).forCall (fun _ _ => 0) ⟨#[], #[.agg #[.int .u8 0, .int .u16 0, .int .u16 0, .int .u16 0], .int .u64 0, .int .u8 0, .int .u32 0, .int .i16 0], []⟩).memory Tryd.f6.params.toList Rows.retryWithinSpec.vars false (#[.agg #[.int .u8 0, .int .u16 0, .int .u16 0, .int .u16 0], .int .u64 0, .int .u8 0, .int .u32 0, .int .i16 0] : Array Value).toList 8 = some ([.agg [.lit (.int .u8 0), .lit (.int .u16 0), .lit (.int .u16 0), .lit (.int .u16 0)], .lit (.int .u64 0), .lit (.int .u8 0), .lit (.int .u32 0), .lit (.int .i16 0)], [], places) :=
  ⟨[], by kernel_rfl⟩
set_option maxRecDepth 100000 in
theorem lifted (os : Os) (started : os.Started) (H : Type) (enc : TypeId × Value → H) (F : Stop.Interp) :
    ReturnsInHanded {} Tryd.checked os 6 .any ((OpenSpec.ofChange Rows.retryWithinSpec).preRow enc Tryd.prog Tryd.f6 Rows.retryWithinRow.domain false Rows.retryWithinRow.laid) (((OpenSpec.ofChange Rows.retryWithinSpec).at F).post enc Tryd.prog Tryd.f6 false true false false) := by
  obtain ⟨places, hx⟩ := reads os enc
  refine returnsInHanded_of_row (C := Tryd.checked) (s := OpenSpec.ofChange Rows.retryWithinSpec) own_ started (by kernel_rfl) Tryd.func6
    (witness_row_at (enc := enc) (C := Tryd.checked) false (laidWorld os) #[.agg #[.int .u8 0, .int .u16 0, .int .u16 0, .int .u16 0], .int .u64 0, .int .u8 0, .int .u32 0, .int .i16 0] rfl (by kernel_rfl) (by kernel_rfl) (by kernel_rfl)
      (OpenSpec.preRow_of_cond 8 hx (by kernel_rfl) (fun k hk => by cases hk) (by kernel_rfl) (laid_met os))) ?_
  intro W base args ds gs before hval hW _ _ _ hL _ _
  exact contract H enc W base args ds gs before hval hW hL
theorem said : Rows.RetryWithinSaid :=
  OpenClaim.holds_of_cond 6 Tryd.f6 rfl rfl rfl rfl rfl rfl rfl ⟨rfl, rfl, rfl, rfl, rfl⟩ rfl rfl rfl rfl rfl (by kernel_rfl) Tryd.func6 (by kernel_rfl)
    (of_decide_eq_true (by kernel_rfl)) (by unfold Func.isWrapper; first | (rw [if_pos (by decide +kernel)]; kernel_rfl) | (rw [if_neg (by decide +kernel)]; exact ⟨rfl, rfl⟩))
    (fun os started H enc _ F => by rw [OpenClaim.pre_eq_preRow]; exact lifted os started H enc F)
theorem plain (f : FuncId) (fn : Func) (hf : Tryd.pinned.checked.prog.funcNamed "wakeman/wakemanlaw31.RetryWithin" = some f) (hfn : Tryd.pinned.checked.prog.funcs[f]? = some fn) :
    false = Tryd.pinned.checked.prog.looks [] ∧ ∀ (j : Nat) t, fn.params[j]? = some t → Tryd.pinned.checked.prog.wantsStandIn t = false := by
  obtain rfl : f = 6 := Option.some.inj ((show Tryd.prog.funcNamed "wakeman/wakemanlaw31.RetryWithin" = some 6 by kernel_rfl).symm.trans hf) |>.symm
  obtain rfl : fn = Tryd.f6 := (Option.some.inj (Tryd.func6.symm.trans hfn)).symm
  refine ⟨by kernel_rfl, fun j t ht => ?_⟩
  rw [Tryd.params6] at ht
  have hm := Array.mem_of_getElem? ht
  simp at hm
  rcases hm with rfl | rfl | rfl | rfl | rfl
  · exact (show Tryd.prog.wantsStandIn 48 = false by kernel_rfl)
  · exact (show Tryd.prog.wantsStandIn 24 = false by kernel_rfl)
  · exact (show Tryd.prog.wantsStandIn 5 = false by kernel_rfl)
  · exact (show Tryd.prog.wantsStandIn 49 = false by kernel_rfl)
  · exact (show Tryd.prog.wantsStandIn 50 = false by kernel_rfl)
theorem card : Rows.RetryWithinCardSaid :=
  Claim7.holds_tied_plain_at .later [] _ _ _ _ said (fun _ h => by cases h) (by kernel_rfl) (fun _ h => by cases h) retryWithin_row_tie rfl ⟨rfl, rfl⟩ (by kernel_rfl) rfl plain (by kernel_rfl)
#print axioms card
end Go.Proofs.YtanipfenioaigaaDoor.lawRetryWithin
