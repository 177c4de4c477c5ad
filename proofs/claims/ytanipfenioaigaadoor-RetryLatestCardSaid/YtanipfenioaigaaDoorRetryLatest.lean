/-
  RetryLatest: no attempt of a chain ends after Latest, if no run takes longer; this holds also if each attempt waits before it is launched.
  Conditions: none beyond the row's own (the table of package mix as the program's text lays it).
-/
import Derived.Test.YtanipfenioaigaaDoorTieE
import Derived.Test.YtanipfenioaigaaDoorRtZ
import Derived.Deep.QuietTactic
set_option linter.unusedVariables false
set_option linter.unusedSimpArgs false
namespace Go.Proofs.YtanipfenioaigaaDoor.lawRetryLatest
open Go.ChangeShapes Go.WideShapes Go.ChangeAt Go.RowKit
theorem aft_le {M B C J : Int} (a : Int) (s : ByteArray) (d : Int) (i : Nat) (hok : okR M B C J) (hi : (i : Int) < M) : 0 ≤ aft M B C J a s d ((i : Int) + 1) ∧ aft M B C J a s d ((i : Int) + 1) ≤ wAt B C i + max (J - 1) 0 := by
  obtain ⟨-, j0, -⟩ := okR_bd hok
  have h1 : waitI M B C J ((i : Int) + 1) = wAt B C i := by
    unfold waitI
    rw [if_pos ⟨hok, by omega, by omega⟩]
    congr 1
    omega
  have h0 := wAt_bound hok i
  have h2 : 0 ≤ jwV a s d ((i : Int) + 1) J ∧ jwV a s d ((i : Int) + 1) J ≤ max (J - 1) 0 := by
    unfold jwV
    split
    · have := jw_bd a s d ((i : Int) + 1) J j0
      omega
    · omega
  unfold aft
  omega
theorem rlS_mono {M B C J : Int} (f r t : Int) (hok : okR M B C J) (hr : 0 ≤ r) (ht : 0 ≤ t) (i j : Nat) (h : i ≤ j) : rlS B C J f r t i ≤ rlS B C J f r t j := by
  induction j with
  | zero => obtain rfl : i = 0 := by omega
            exact Int.le_refl _
  | succ j ih =>
    by_cases e : i = j + 1
    · subst e; exact Int.le_refl _
    · have h1 := ih (by omega)
      have h2 := wAt_bound hok j
      simp only [rlS]
      omega
theorem rlS_small {M B C J : Int} (f r t : Int) (hok : okR M B C J) (hC : C ≤ 131071) (hJ : J ≤ 65535) (f1 : f ≤ 4294967295) (r1 : r ≤ 65535) (t1 : t ≤ 65535) (i : Nat) : rlS B C J f r t i ≤ 4295098365 + i * 327676 := by
  induction i with
  | zero => simp only [rlS]; omega
  | succ i ih =>
    have h2 := wAt_bound hok i
    simp only [rlS]
    omega
set_option maxRecDepth 20000 in
set_option maxHeartbeats 16000000 in
theorem walk (w : World) (a b c e : Int) (ra : 0 ≤ a ∧ a ≤ 255) (rb : 0 ≤ b ∧ b ≤ 65535) (rc : 0 ≤ c ∧ c ≤ 65535) (re : 0 ≤ e ∧ e ≤ 65535) (s : Int) (s0 : 0 ≤ s) (s1 : s ≤ 18446744073709551615) (f : Int) (f0 : 0 ≤ f) (f1 : f ≤ 4294967295) (r : Int) (r0 : 0 ≤ r) (r1 : r ≤ 65535) (t : Int) (t0 : 0 ≤ t) (t1 : t ≤ 65535) (v : Value) (n : Nat) (R : RdP w v n) (hT : Tab w) :
    Calls Tryd.prog 8 #[.agg #[.int .u8 a, .int .u16 b, .int .u16 c, .int .u16 e], .int .u64 s, .int .u32 f, .int .u16 r, .int .u16 t, v] w fun e w' => e = .returned (.bool true) ∧ G w w' := by
  have HT := Lib.hid hT
  obtain ⟨M, B, C, J, hok, ⟨m0', m1⟩, ⟨j0, j1⟩, ⟨cc0, cc1⟩, hmd⟩ := made_ex2 a b c e ra rb rc re
  obtain ⟨m0, rfl⟩ : ∃ m : Nat, M = m := ⟨M.toNat, by omega⟩
  have HMd := Lib.hid hmd
  have HOK := Lib.hid hok
  have HMo := Lib.hid (rlS_mono f r t hok r0 t0)
  have HSm : Hid (∀ i, rlS B C J f r t i ≤ 4295098365 + i * 327676) := Lib.hid (rlS_small f r t hok cc1 j1 f1 r1 t1)
  have u1 : u64 s := ⟨s0, by omega⟩
  have HLE : Hid (ltE m0 B C J f r t = 0) := Lib.hid (by unfold ltE; rw [if_pos hok, if_pos (by unfold tmB; omega), if_pos (by unfold spB; omega)])
  have HLV : Hid (ltV m0 B C J f r t = rlS B C J f r t m0) := Lib.hid ((if_pos HLE.out).trans (by rw [rlS_eq, Int.toNat_natCast]))
  clear hT hmd hok
  obtain ⟨A, cx, rfl, hc, hcm, hd⟩ := R
  go_enter Tryd.func8, Tryd.ntmps8
  go_wp2_with fail
  go_at_call 27
  refine (HMd.out _).mono ?_
  rintro e0 w1 ⟨rfl, g1⟩
  have bR := Blk.new w1 23 #[.int .i64 m0, .int .i64 B, .int .i64 C, .int .i64 J]
  have gA : G w (w1.alloc (.cells #[.int .i64 m0, .int .i64 B, .int .i64 C, .int .i64 J] 23)) := (((G.refl w).alloc _).trans g1).alloc _
  clear g1
  have c0 : (w1.alloc (.cells #[.int .i64 m0, .int .i64 B, .int .i64 C, .int .i64 J] 23)).cell? ⟨w1.heap.size, 0, none⟩ = some (.int .i64 m0) := bR.cell 0
  have c1 : (w1.alloc (.cells #[.int .i64 m0, .int .i64 B, .int .i64 C, .int .i64 J] 23)).cell? ⟨w1.heap.size, 1, none⟩ = some (.int .i64 B) := bR.cell 1
  have c2 : (w1.alloc (.cells #[.int .i64 m0, .int .i64 B, .int .i64 C, .int .i64 J] 23)).cell? ⟨w1.heap.size, 2, none⟩ = some (.int .i64 C) := bR.cell 2
  have c3 : (w1.alloc (.cells #[.int .i64 m0, .int .i64 B, .int .i64 C, .int .i64 J] 23)).cell? ⟨w1.heap.size, 3, none⟩ = some (.int .i64 J) := bR.cell 3
  go_wp2_with fail
  generalize w1.alloc (.cells #[.int .i64 m0, .int .i64 B, .int .i64 C, .int .i64 J] 23) = w2 at *
  generalize w1.heap.size = kR at *
  go_at_call 19
  refine (latest_any m0 B C J f r t _).mono ?_
  rintro e0 w3 ⟨rfl, gx⟩
  rw [HLE.out, HLV.out]
  replace gA := gA.trans gx
  replace bR := bR.g gx
  clear c0 c1 c2 c3 gx
  go_wp2_with fail
  go_loopw [16, 17] (fun tv kv wr => ∃ i : Nat, i ≤ m0 + 1 ∧ kv = .int .i64 ((i : Int) + 1) ∧ ∃ x : Int, tv = .int .i64 x ∧ 0 ≤ x ∧ (i ≤ m0 → x + r + t ≤ rlS B C J f r t i) ∧ G w wr ∧ Blk wr kR 23 #[.int .i64 m0, .int .i64 B, .int .i64 C, .int .i64 J]) (fun _ kv _ => m0 + 2 - (intOf kv).toNat)
  case atStart => exact ⟨0, by omega, rfl, f, rfl, f0, fun _ => by simp only [rlS]; omega, gA, bR⟩
  case round =>
    clear gA bR
    obtain ⟨i, hi, rfl, x, rfl, x0, hxr, gA, bR⟩ := hrel
    have c0 : wr.cell? ⟨kR, 0, none⟩ = some (.int .i64 m0) := bR.cell 0
    have c1 : wr.cell? ⟨kR, 1, none⟩ = some (.int .i64 B) := bR.cell 1
    have c2 : wr.cell? ⟨kR, 2, none⟩ = some (.int .i64 C) := bR.cell 2
    have c3 : wr.cell? ⟨kR, 3, none⟩ = some (.int .i64 J) := bR.cell 3
    by_cases hlt : i ≤ m0
    · have him : (i : Int) + 1 ≤ (m0 : Int) + 1 := by omega
      have x1 := hxr hlt
      have hRi := HSm.out i
      have hxb : x ≤ 253402300799 := by omega
      clear hxr
      rcases Nat.lt_or_ge i m0 with hlast | hlast
      · by_cases hin : i < n
        · obtain ⟨b, o, p, q, rfl, dp, dq, ⟨p0, p1⟩, ⟨q0, q1⟩⟩ := hd i (by omega)
          have ep := gA.cell (World.block_lt_of_cell? w _ dp) dp
          have eq := gA.cell (World.block_lt_of_cell? w _ dq) dq
          clear dp dq
          obtain ⟨p2, hp2⟩ : ∃ p2, p.tmod (r + 1) = p2 := ⟨_, rfl⟩
          obtain ⟨q2, hq2⟩ : ∃ q2, q.tmod (t + 1) = q2 := ⟨_, rfl⟩
          have p3 : 0 ≤ p2 ∧ p2 ≤ r := by
            have h1 := Int.tmod_nonneg (r + 1) p0
            have h2 := Int.tmod_lt_of_pos p (show 0 < r + 1 by omega)
            omega
          have q3 : 0 ≤ q2 ∧ q2 ≤ t := by
            have h1 := Int.tmod_nonneg (t + 1) q0
            have h2 := Int.tmod_lt_of_pos q (show 0 < t + 1 by omega)
            omega
          obtain ⟨p30, p31⟩ := p3
          obtain ⟨q30, q31⟩ := q3
          have hil2 : (i : Int) + 1 ≤ (n : Int) := by omega
          have hil3 : (i : Int) < (n : Int) := by omega
          have hr1 : (r + 1 == 0) = false := by simp; omega
          have ht1 : (t + 1 == 0) = false := by simp; omega
          obtain ⟨y, hy⟩ : ∃ y, x + (p2 + q2) = y := ⟨_, rfl⟩
          have y0 : 0 ≤ y := by omega
          have y1 : y ≤ rlS B C J f r t i := by omega
          have y2 : y ≤ rlS B C J f r t m0 := Int.le_trans y1 (HMo.out i m0 (by omega))
          have y3 : rlS B C J f r t m0 ≤ 253402300799 - 1000000 := by have := HSm.out m0; omega
          have hrt : rtE m0 B C J ⟨#[120]⟩ 0 y = 0 := by unfold rtE; rw [if_pos HOK.out, if_pos (by decide +kernel), if_pos ⟨by decide, by unfold tmB; omega⟩]
          have HNE : Hid (nxE m0 B C J ⟨#[120]⟩ 0 ((i : Int) + 1) y = 0) := Lib.hid ((if_pos hrt).trans (by unfold lfE; rw [if_pos HOK.out, if_pos (by omega)]))
          clear hrt
          have HNX := Lib.hid (fun w h => next_any m0 B C J s ⟨#[120]⟩ 0 ((i : Int) + 1) y u1 (by omega) (by omega) w h)
          have HNB : Hid (nxB m0 B C J ⟨#[120]⟩ 0 ((i : Int) + 1) y = true) := Lib.hid (decide_eq_true ⟨HNE.out, by omega⟩)
          have HNV : Hid (nxV m0 B C J s ⟨#[120]⟩ 0 ((i : Int) + 1) y = y + aft m0 B C J s ⟨#[120]⟩ 0 ((i : Int) + 1)) := Lib.hid (if_pos HNB.out)
          have haf := aft_le (M := m0) s ⟨#[120]⟩ 0 i HOK.out (by omega)
          have hS1 : rlS B C J f r t (i + 1) = rlS B C J f r t i + wAt B C i + t + r + max (J - 1) 0 := rfl
          rw [HNE.out, HNB.out, HNV.out] at HNX
          obtain ⟨z, hz⟩ : ∃ z, y + aft m0 B C J s ⟨#[120]⟩ 0 ((i : Int) + 1) = z := ⟨_, rfl⟩
          rw [hz] at HNX
          obtain ⟨z0, z1⟩ : y ≤ z ∧ z + r + t ≤ rlS B C J f r t (i + 1) := ⟨by omega, by omega⟩
          have hsm := aft_small s ⟨#[120]⟩ 0 ((i : Int) + 1) HOK.out cc1 j1
          have z2 : z ≤ 9223372036854775807 := by omega
          clear hsm
          clear hz haf hS1 HNV HNB HNE
          generalize rlS B C J f r t i = Ri at *
          have hw1 : IntKind.i64.wrap (r + 1) = r + 1 := by rw [IntKind.wrap_i64]; omega
          have hw2 : IntKind.i64.wrap (t + 1) = t + 1 := by rw [IntKind.wrap_i64]; omega
          have hw3 : IntKind.i64.wrap ((i : Int) + 1 - 1) = (i : Int) := by rw [IntKind.wrap_i64]; omega
          have hw4 : IntKind.i64.wrap p2 = p2 := by rw [IntKind.wrap_i64]; omega
          have hw5 : IntKind.i64.wrap q2 = q2 := by rw [IntKind.wrap_i64]; omega
          go_wp2_with fail
          go_quiet (fail)
          go_wp2_with fail
          go_at_call 17
          refine (HNX.out _ (HT.out.g (gA.drewN _))).mono ?_
          rintro e0 w5 ⟨rfl, gx⟩
          have gA2 := (gA.drewN _).trans gx
          have hbR := (bR.drewN _).g gx
          clear c0 c1 c2 c3 gx
          have c0 : w5.cell? ⟨kR, 0, none⟩ = some (.int .i64 m0) := hbR.cell 0
          have him2 : (i : Int) + 1 ≤ m0 := by omega
          go_wp2_with fail
          go_roundw
          case rel => exact ⟨i + 1, by omega, by go_num, z, rfl, by omega, fun _ => z1, gA2, hbR⟩
          case measure => simp [intOf]; omega
        · have hnl : decide ((i : Int) + 1 ≤ (n : Int)) = false := by simp; omega
          obtain ⟨y, hy⟩ : ∃ y, x = y := ⟨_, rfl⟩
          have y0 : 0 ≤ y := by omega
          have y1 : y ≤ rlS B C J f r t i := by omega
          have y2 : y ≤ rlS B C J f r t m0 := Int.le_trans y1 (HMo.out i m0 (by omega))
          have y3 : rlS B C J f r t m0 ≤ 253402300799 - 1000000 := by have := HSm.out m0; omega
          have hrt : rtE m0 B C J ⟨#[120]⟩ 0 y = 0 := by unfold rtE; rw [if_pos HOK.out, if_pos (by decide +kernel), if_pos ⟨by decide, by unfold tmB; omega⟩]
          have HNE : Hid (nxE m0 B C J ⟨#[120]⟩ 0 ((i : Int) + 1) y = 0) := Lib.hid ((if_pos hrt).trans (by unfold lfE; rw [if_pos HOK.out, if_pos (by omega)]))
          clear hrt
          have HNX := Lib.hid (fun w h => next_any m0 B C J s ⟨#[120]⟩ 0 ((i : Int) + 1) y u1 (by omega) (by omega) w h)
          have HNB : Hid (nxB m0 B C J ⟨#[120]⟩ 0 ((i : Int) + 1) y = true) := Lib.hid (decide_eq_true ⟨HNE.out, by omega⟩)
          have HNV : Hid (nxV m0 B C J s ⟨#[120]⟩ 0 ((i : Int) + 1) y = y + aft m0 B C J s ⟨#[120]⟩ 0 ((i : Int) + 1)) := Lib.hid (if_pos HNB.out)
          have haf := aft_le (M := m0) s ⟨#[120]⟩ 0 i HOK.out (by omega)
          have hS1 : rlS B C J f r t (i + 1) = rlS B C J f r t i + wAt B C i + t + r + max (J - 1) 0 := rfl
          rw [HNE.out, HNB.out, HNV.out] at HNX
          obtain ⟨z, hz⟩ : ∃ z, y + aft m0 B C J s ⟨#[120]⟩ 0 ((i : Int) + 1) = z := ⟨_, rfl⟩
          rw [hz] at HNX
          obtain ⟨z0, z1⟩ : y ≤ z ∧ z + r + t ≤ rlS B C J f r t (i + 1) := ⟨by omega, by omega⟩
          have hsm := aft_small s ⟨#[120]⟩ 0 ((i : Int) + 1) HOK.out cc1 j1
          have z2 : z ≤ 9223372036854775807 := by omega
          clear hsm
          clear hz haf hS1 HNV HNB HNE
          generalize rlS B C J f r t i = Ri at *
          obtain rfl := hy
          have gA2 := gA
          have hbR := bR
          go_wp2_with fail
          go_at_call 17
          refine (HNX.out _ (HT.out.g gA2)).mono ?_
          rintro e0 w5 ⟨rfl, gx⟩
          replace gA2 := gA2.trans gx
          replace hbR := hbR.g gx
          clear c0 c1 c2 c3 gx
          have c0 : w5.cell? ⟨kR, 0, none⟩ = some (.int .i64 m0) := hbR.cell 0
          have him2 : (i : Int) + 1 ≤ m0 := by omega
          go_wp2_with fail
          go_roundw
          case rel => exact ⟨i + 1, by omega, by go_num, z, rfl, by omega, fun _ => z1, gA2, hbR⟩
          case measure => simp [intOf]; omega
      · by_cases hin : i < n
        · obtain ⟨b, o, p, q, rfl, dp, dq, ⟨p0, p1⟩, ⟨q0, q1⟩⟩ := hd i (by omega)
          have ep := gA.cell (World.block_lt_of_cell? w _ dp) dp
          have eq := gA.cell (World.block_lt_of_cell? w _ dq) dq
          clear dp dq
          obtain ⟨p2, hp2⟩ : ∃ p2, p.tmod (r + 1) = p2 := ⟨_, rfl⟩
          obtain ⟨q2, hq2⟩ : ∃ q2, q.tmod (t + 1) = q2 := ⟨_, rfl⟩
          have p3 : 0 ≤ p2 ∧ p2 ≤ r := by
            have h1 := Int.tmod_nonneg (r + 1) p0
            have h2 := Int.tmod_lt_of_pos p (show 0 < r + 1 by omega)
            omega
          have q3 : 0 ≤ q2 ∧ q2 ≤ t := by
            have h1 := Int.tmod_nonneg (t + 1) q0
            have h2 := Int.tmod_lt_of_pos q (show 0 < t + 1 by omega)
            omega
          obtain ⟨p30, p31⟩ := p3
          obtain ⟨q30, q31⟩ := q3
          have hil2 : (i : Int) + 1 ≤ (n : Int) := by omega
          have hil3 : (i : Int) < (n : Int) := by omega
          have hr1 : (r + 1 == 0) = false := by simp; omega
          have ht1 : (t + 1 == 0) = false := by simp; omega
          obtain ⟨y, hy⟩ : ∃ y, x + (p2 + q2) = y := ⟨_, rfl⟩
          have y0 : 0 ≤ y := by omega
          have y1 : y ≤ rlS B C J f r t i := by omega
          have y2 : y ≤ rlS B C J f r t m0 := Int.le_trans y1 (HMo.out i m0 (by omega))
          have y3 : rlS B C J f r t m0 ≤ 253402300799 - 1000000 := by have := HSm.out m0; omega
          have hrt : rtE m0 B C J ⟨#[120]⟩ 0 y = 0 := by unfold rtE; rw [if_pos HOK.out, if_pos (by decide +kernel), if_pos ⟨by decide, by unfold tmB; omega⟩]
          have HNE : Hid (nxE m0 B C J ⟨#[120]⟩ 0 ((i : Int) + 1) y = 0) := Lib.hid ((if_pos hrt).trans (by unfold lfE; rw [if_pos HOK.out, if_pos (by omega)]))
          clear hrt
          have HNX := Lib.hid (fun w h => next_any m0 B C J s ⟨#[120]⟩ 0 ((i : Int) + 1) y u1 (by omega) (by omega) w h)
          have HNB : Hid (nxB m0 B C J ⟨#[120]⟩ 0 ((i : Int) + 1) y = false) := Lib.hid (decide_eq_false (fun h => by have := h.2; omega))
          have HNV : Hid (nxV m0 B C J s ⟨#[120]⟩ 0 ((i : Int) + 1) y = 0) := Lib.hid (if_neg (by rw [HNB.out]; decide))
          rw [HNE.out, HNB.out, HNV.out] at HNX
          clear HNV HNB HNE
          have hw1 : IntKind.i64.wrap (r + 1) = r + 1 := by rw [IntKind.wrap_i64]; omega
          have hw2 : IntKind.i64.wrap (t + 1) = t + 1 := by rw [IntKind.wrap_i64]; omega
          have hw3 : IntKind.i64.wrap ((i : Int) + 1 - 1) = (i : Int) := by rw [IntKind.wrap_i64]; omega
          have hw4 : IntKind.i64.wrap p2 = p2 := by rw [IntKind.wrap_i64]; omega
          have hw5 : IntKind.i64.wrap q2 = q2 := by rw [IntKind.wrap_i64]; omega
          go_wp2_with fail
          go_quiet (fail)
          go_wp2_with fail
          go_at_call 17
          refine (HNX.out _ (HT.out.g (gA.drewN _))).mono ?_
          rintro e0 w5 ⟨rfl, gx⟩
          have gA2 := (gA.drewN _).trans gx
          have hbR := (bR.drewN _).g gx
          clear c0 c1 c2 c3 gx
          have c0 : w5.cell? ⟨kR, 0, none⟩ = some (.int .i64 m0) := hbR.cell 0
          have him2 : decide ((i : Int) + 1 ≤ m0) = false := by simp; omega
          go_wp2_with fail
          go_roundw
          case rel => exact ⟨i + 1, by omega, by go_num, y, rfl, y0, fun h => absurd h (by omega), gA2, hbR⟩
          case measure => simp [intOf]; omega
        · have hnl : decide ((i : Int) + 1 ≤ (n : Int)) = false := by simp; omega
          obtain ⟨y, hy⟩ : ∃ y, x = y := ⟨_, rfl⟩
          have y0 : 0 ≤ y := by omega
          have y1 : y ≤ rlS B C J f r t i := by omega
          have y2 : y ≤ rlS B C J f r t m0 := Int.le_trans y1 (HMo.out i m0 (by omega))
          have y3 : rlS B C J f r t m0 ≤ 253402300799 - 1000000 := by have := HSm.out m0; omega
          have hrt : rtE m0 B C J ⟨#[120]⟩ 0 y = 0 := by unfold rtE; rw [if_pos HOK.out, if_pos (by decide +kernel), if_pos ⟨by decide, by unfold tmB; omega⟩]
          have HNE : Hid (nxE m0 B C J ⟨#[120]⟩ 0 ((i : Int) + 1) y = 0) := Lib.hid ((if_pos hrt).trans (by unfold lfE; rw [if_pos HOK.out, if_pos (by omega)]))
          clear hrt
          have HNX := Lib.hid (fun w h => next_any m0 B C J s ⟨#[120]⟩ 0 ((i : Int) + 1) y u1 (by omega) (by omega) w h)
          have HNB : Hid (nxB m0 B C J ⟨#[120]⟩ 0 ((i : Int) + 1) y = false) := Lib.hid (decide_eq_false (fun h => by have := h.2; omega))
          have HNV : Hid (nxV m0 B C J s ⟨#[120]⟩ 0 ((i : Int) + 1) y = 0) := Lib.hid (if_neg (by rw [HNB.out]; decide))
          rw [HNE.out, HNB.out, HNV.out] at HNX
          clear HNV HNB HNE
          obtain rfl := hy
          have gA2 := gA
          have hbR := bR
          go_wp2_with fail
          go_at_call 17
          refine (HNX.out _ (HT.out.g gA2)).mono ?_
          rintro e0 w5 ⟨rfl, gx⟩
          replace gA2 := gA2.trans gx
          replace hbR := hbR.g gx
          clear c0 c1 c2 c3 gx
          have c0 : w5.cell? ⟨kR, 0, none⟩ = some (.int .i64 m0) := hbR.cell 0
          have him2 : decide ((i : Int) + 1 ≤ m0) = false := by simp; omega
          go_wp2_with fail
          go_roundw
          case rel => exact ⟨i + 1, by omega, by go_num, x, rfl, x0, fun h => absurd h (by omega), gA2, hbR⟩
          case measure => simp [intOf]; omega
    · obtain rfl : i = m0 + 1 := by omega
      have him : decide (((m0 + 1 : Nat) : Int) + 1 ≤ (m0 : Int) + 1) = false := by simp; omega
      have him2 : decide ((m0 : Int) + 1 + 1 ≤ (m0 : Int) + 1) = false := by simp; omega
      go_wp2_with fail
      go_at_call 12
      refine (works_any _ (HT.out.g gA)).mono ?_
      rintro e0 w99 ⟨rfl, gx⟩
      go_wp2_with fail
      go_ret
      exact ⟨rfl, gA.trans gx⟩

set_option maxRecDepth 4000 in
set_option maxHeartbeats 2000000 in
theorem contract (H : Type) (enc : TypeId × Value → H) (W : World) (base : Nat) (args : Array Value) (ds gs : List (DataW H)) (before : List MemPlace)
    (hval : ∀ (j : Nat) t v, Tryd.f8.params[j]? = some t → args[j]? = some v → Value.okWide Tryd.prog W .any base t v)
    (hW : DataW.Whole enc Tryd.prog Tryd.f8.params.toList Rows.retryLatestSpec.vars false W args.toList ds gs before) (hL : laidMetH Tryd.prog Rows.retryLatestRow.laid W) :
    Calls Tryd.prog 8 args W fun e W' => ∃ v, e = .returned v ∧ Rows.retryLatestSpec.post enc Tryd.prog Tryd.f8 false true false false W args v W' := by
  have hW' := hW
  obtain ⟨p, q, hA0, hV, rfl, hfz, hnd⟩ := hW
  have hA : DataW.TrodAll enc Tryd.prog W 0 (fun _ => true) true Tryd.f8.params.toList args.toList ds p := hA0
  rw [Tryd.params8] at hA hval
  obtain ⟨v0, vs0, d0, ds0, p0, q0, hargs, rfl, rfl, h0, r0⟩ := trodAll_cons hA
  obtain ⟨v1, vs1, d1, ds1, p1, q1, rfl, rfl, rfl, h1, r1⟩ := trodAll_cons r0
  obtain ⟨v2, vs2, d2, ds2, p2, q2, rfl, rfl, rfl, h2, r2⟩ := trodAll_cons r1
  obtain ⟨v3, vs3, d3, ds3, p3, q3, rfl, rfl, rfl, h3, r3⟩ := trodAll_cons r2
  obtain ⟨v4, vs4, d4, ds4, p4, q4, rfl, rfl, rfl, h4, r4⟩ := trodAll_cons r3
  obtain ⟨v5, vs5, d5, ds5, p5, q5, rfl, rfl, rfl, h5, r5⟩ := trodAll_cons r4
  obtain ⟨rfl, rfl, rfl⟩ := trodAll_nil r5
  obtain rfl : args = #[v0, v1, v2, v3, v4, v5] := by first | exact Array.ext' hargs | (cases args; simp_all)
  obtain ⟨a0, b0, c0, e0, rfl, ra0, rb0, rc0, re0⟩ := open_small (hval 0 48 v0 rfl rfl) h0
  obtain ⟨a1, rfl, rfl, rfl, w1⟩ := open_int Tryd.underlying24 (hval 1 24 v1 rfl rfl) h1
  simp [Lit.wf, IntKind.min, IntKind.max, IntKind.bits, IntKind.signed] at w1
  obtain ⟨a2, rfl, rfl, rfl, w2⟩ := open_int Tryd.underlying49 (hval 2 49 v2 rfl rfl) h2
  simp [Lit.wf, IntKind.min, IntKind.max, IntKind.bits, IntKind.signed] at w2
  obtain ⟨a3, rfl, rfl, rfl, w3⟩ := open_int Tryd.underlying46 (hval 3 46 v3 rfl rfl) h3
  simp [Lit.wf, IntKind.min, IntKind.max, IntKind.bits, IntKind.signed] at w3
  obtain ⟨a4, rfl, rfl, rfl, w4⟩ := open_int Tryd.underlying46 (hval 4 46 v4 rfl rfl) h4
  simp [Lit.wf, IntKind.min, IntKind.max, IntKind.bits, IntKind.signed] at w4
  obtain ⟨l5, R5⟩ := open_pairs Tryd.underlying57 Tryd.underlying58 Tryd.underlying46 (by kernel_rfl) (by kernel_rfl) (hval 5 57 v5 rfl rfl) h5
  refine (walk (w := W) a0 b0 c0 e0 ra0 rb0 rc0 re0 a1 (by omega) (by omega) a2 (by omega) (by omega) a3 (by omega) (by omega) a4 (by omega) (by omega) v5 l5 R5 (tab_of hL)).mono fun e W' ⟨he, hg⟩ => ?_
  subst he
  exact ⟨_, rfl, law_post laidOut_ (by
    intro t ht
    rw [Tryd.params8] at ht
    simp at ht
    rcases ht with rfl | rfl | rfl | rfl | rfl <;> exact ⟨by kernel_rfl, by decide +kernel⟩) hW' rfl rfl (by kernel_rfl) Tryd.underlying4 hg⟩
theorem laid_met (os : Os) : laidMet Tryd.prog Rows.retryLatestRow.laid ((laidWorld os).forCall (fun _ _ => 0) ⟨#[], #[.agg #[.int .u8 0, .int .u16 0, .int .u16 0, .int .u16 0], .int .u64 0, .int .u32 0, .int .u16 0, .int .u16 0, .slice none 0 0], []⟩).memory :=
  laidMet_of_run' 8 (by kernel_rfl) (by kernel_rfl)
theorem reads (os : Os) {H : Type} (enc : TypeId × Value → H) : ∃ places, DataW.whole enc Tryd.prog ((laidWorld os).forCall (fun _ _ => 0) ⟨#[], #[.agg #[.int .u8 0, .int .u16 0, .int .u16 0, .int .u16 0], .int .u64 0, .int .u32 0, .int .u16 0, .int .u16 0, .slice none 0 0], []⟩).memory Tryd.f8.params.toList Rows.retryLatestSpec.vars false (#[.agg #[.int .u8 0, .int .u16 0, .int .u16 0, .int .u16 0], .int .u64 0, .int .u32 0, .int .u16 0, .int .u16 0, .slice none 0 0] : Array Value).toList 8 = some ([.agg [.lit (.int .u8 0), .lit (.int .u16 0), .lit (.int .u16 0), .lit (.int .u16 0)], .lit (.int .u64 0), .lit (.int .u32 0), .lit (.int .u16 0), .lit (.int .u16 0), .nil], [], places) :=
  ⟨[], by kernel_rfl⟩
set_option maxRecDepth 100000 in
theorem lifted (os : Os) (started : os.Started) (H : Type) (enc : TypeId × Value → H) (F : Stop.Interp) :
    ReturnsInHanded {} Tryd.checked os 8 .any ((OpenSpec.ofChange Rows.retryLatestSpec).preRow enc Tryd.prog Tryd.f8 Rows.retryLatestRow.domain false Rows.retryLatestRow.laid) (((OpenSpec.ofChange Rows.retryLatestSpec).at F).post enc Tryd.prog Tryd.f8 false true false false) := by
  obtain ⟨places, hx⟩ := reads os enc
  refine returnsInHanded_of_row (C := Tryd.checked) (s := OpenSpec.ofChange Rows.retryLatestSpec) own_ started (by kernel_rfl) Tryd.func8
    (witness_row_at (enc := enc) (C := Tryd.checked) false (laidWorld os) #[.agg #[.int .u8 0, .int .u16 0, .int .u16 0, .int .u16 0], .int .u64 0, .int .u32 0, .int .u16 0, .int .u16 0, .slice none 0 0] rfl (by kernel_rfl) (by kernel_rfl) (by kernel_rfl)
      (OpenSpec.preRow_of_cond 8 hx (by kernel_rfl) (fun k hk => by cases hk) (by kernel_rfl) (laid_met os))) ?_
  intro W base args ds gs before hval hW _ _ _ hL _ _
  exact contract H enc W base args ds gs before hval hW hL
theorem said : Rows.RetryLatestSaid :=
  OpenClaim.holds_of_cond 8 Tryd.f8 rfl rfl rfl rfl rfl rfl rfl ⟨rfl, rfl, rfl, rfl, rfl⟩ rfl rfl rfl rfl rfl (by kernel_rfl) Tryd.func8 (by kernel_rfl)
    (of_decide_eq_true (by kernel_rfl)) (by unfold Func.isWrapper; first | (rw [if_pos (by decide +kernel)]; kernel_rfl) | (rw [if_neg (by decide +kernel)]; exact ⟨rfl, rfl⟩))
    (fun os started H enc _ F => by rw [OpenClaim.pre_eq_preRow]; exact lifted os started H enc F)
theorem plain (f : FuncId) (fn : Func) (hf : Tryd.pinned.checked.prog.funcNamed "wakeman/wakemanlaw31.RetryLatest" = some f) (hfn : Tryd.pinned.checked.prog.funcs[f]? = some fn) :
    false = Tryd.pinned.checked.prog.looks [] ∧ ∀ (j : Nat) t, fn.params[j]? = some t → Tryd.pinned.checked.prog.wantsStandIn t = false := by
  obtain rfl : f = 8 := Option.some.inj ((show Tryd.prog.funcNamed "wakeman/wakemanlaw31.RetryLatest" = some 8 by kernel_rfl).symm.trans hf) |>.symm
  obtain rfl : fn = Tryd.f8 := (Option.some.inj (Tryd.func8.symm.trans hfn)).symm
  refine ⟨by kernel_rfl, fun j t ht => ?_⟩
  rw [Tryd.params8] at ht
  have hm := Array.mem_of_getElem? ht
  simp at hm
  rcases hm with rfl | rfl | rfl | rfl | rfl
  · exact (show Tryd.prog.wantsStandIn 48 = false by kernel_rfl)
  · exact (show Tryd.prog.wantsStandIn 24 = false by kernel_rfl)
  · exact (show Tryd.prog.wantsStandIn 49 = false by kernel_rfl)
  · exact (show Tryd.prog.wantsStandIn 46 = false by kernel_rfl)
  · exact (show Tryd.prog.wantsStandIn 57 = false by kernel_rfl)
theorem card : Rows.RetryLatestCardSaid :=
  Claim7.holds_tied_plain_at .later [] _ _ _ _ said (fun _ h => by cases h) (by kernel_rfl) (fun _ h => by cases h) retryLatest_row_tie rfl ⟨rfl, rfl⟩ (by kernel_rfl) rfl plain (by kernel_rfl)
#print axioms card
end Go.Proofs.YtanipfenioaigaaDoor.lawRetryLatest
