/-
  The document's side of retries: isName, check, after, Left, Earliest, Allowed, Next.
-/
import Derived.Test.YtanipfenioaigaaDoorRtA
set_option linter.unusedVariables false
set_option linter.unusedSimpArgs false
namespace Go.Proofs.YtanipfenioaigaaDoor
open Go.RowKit Go.Shelf

set_option maxHeartbeats 2000000 in
theorem risname_any (s : ByteArray) (hsz : s.size < 9223372036854775807) (w : World) :
    Calls Tryd.prog 52 #[.string s] w fun e w' => e = .returned (.bool (nmB s)) ∧ G w w' := by
  obtain ⟨R, hR⟩ : ∃ R, nmB s = R := ⟨_, rfl⟩
  have HR := Lib.hid hR
  rw [hR]
  clear hR
  go_enter Tryd.func52, Tryd.ntmps52
  go_wp2_with fail
  go_loopw [3] (fun iv wr => ∃ k : Nat, k ≤ s.size ∧ iv = .int .i64 k ∧ nmAll ((bs s).take k) = true ∧ G w wr) (fun iv _ => s.size - (intOf iv).toNat)
  case atStart => exact ⟨0, by omega, rfl, rfl, G.refl _⟩
  case round =>
    obtain ⟨k, hk, rfl, ha, hg⟩ := hrel
    by_cases hlt : k < s.size
    · have hki : (k : Int) < s.size := by omega
      have ht := bs_at hlt
      obtain ⟨d0, d1⟩ := bs_bd s k
      have HS := Lib.hid (nmAll_take (bs s) (k := k) (by rw [bs_len]; exact hlt))
      have HN := Lib.hid (nmAll_no (bs s) (k := k) (by rw [bs_len]; exact hlt))
      by_cases hc : nmc (at_ (bs s) k) = true
      · have HA : Hid (nmAll ((bs s).take (k + 1)) = true) := Lib.hid (by rw [HS.out, ha, hc]; rfl)
        unfold nmc at hc
        have hc := of_decide_eq_true hc
        clear HS HN ha
        generalize at_ (bs s) k = c at *
        have hc : ((97 ≤ c ∧ c ≤ 122) ∨ (65 ≤ c ∧ c ≤ 90)) ∨ (48 ≤ c ∧ c ≤ 57) ∨ c = 45 ∨ c = 95 := hc
        rcases hc with (⟨hc, hc2⟩ | ⟨hc, hc2⟩) | ⟨hc, hc2⟩ | rfl | rfl
        all_goals (
            go_wp2_with fail
            go_roundw
            case rel => exact ⟨k + 1, by omega, by go_num, HA.out, (by repeat (first | exact G.refl _ | refine G.alloc ?_ _ | refine G.drewN ?_ _ | refine G.drew ?_ | refine G.trans ?_ (by assumption)))⟩
            case measure => simp [intOf]; omega)
      · have hcn : nmc (at_ (bs s) k) = false := by simpa using hc
        have HB : Hid (R = false) := Lib.hid (by rw [← HR.out]; unfold nmB; rw [HN.out hcn, Bool.and_false])
        unfold nmc at hcn
        have hcn := of_decide_eq_false hcn
        clear HS HN ha
        generalize at_ (bs s) k = c at *
        have hcn : ¬ (((97 ≤ c ∧ c ≤ 122) ∨ (65 ≤ c ∧ c ≤ 90)) ∨ (48 ≤ c ∧ c ≤ 57) ∨ c = 45 ∨ c = 95) := hcn
        have hr : c < 45 ∨ (45 < c ∧ c < 48) ∨ (57 < c ∧ c < 65) ∨ (90 < c ∧ c < 95) ∨ (95 < c ∧ c < 97) ∨ 122 < c := by omega
        clear hcn hc
        rcases hr with hr | ⟨hr, hr2⟩ | ⟨hr, hr2⟩ | ⟨hr, hr2⟩ | ⟨hr, hr2⟩ | hr
        all_goals (
            go_wp2_with fail
            all_goals first
              | (go_ret; exact ⟨by rw [HB.out]; rfl, (by repeat (first | exact G.refl _ | refine G.alloc ?_ _ | refine G.drewN ?_ _ | refine G.drew ?_ | refine G.trans ?_ (by assumption)))⟩)
              | (exfalso; rename_i hz; simp at hz; omega))
    · obtain rfl : k = s.size := by omega
      have HA : Hid (nmAll (bs s) = true) := Lib.hid (by rw [← nmAll_all]; exact ha)
      have HB : Hid (R = decide (0 < s.size ∧ s.size ≤ 24)) := Lib.hid (by rw [← HR.out]; unfold nmB; rw [HA.out, Bool.and_true])
      clear ha HA
      rcases Nat.lt_or_ge 0 s.size with h0 | h0
      · rcases Nat.lt_or_ge 24 s.size with h1 | h1
        · have e : decide (0 < s.size ∧ s.size ≤ 24) = false := decide_eq_false (by omega)
          replace HB := Lib.hid (HB.out.trans e)
          have h2 : (24 : Int) < s.size := by omega
          have h4 : decide ((s.size : Int) ≤ 24) = false := by simp; omega
          have h5 : decide (s.size ≤ 24) = false := by simp; omega
          have h3 : (1 : Int) ≤ s.size := by omega
          clear e
          go_wp2_with fail
          go_ret
          exact ⟨by rw [HB.out]; rfl, (by repeat (first | exact G.refl _ | refine G.alloc ?_ _ | refine G.drewN ?_ _ | refine G.drew ?_ | refine G.trans ?_ (by assumption)))⟩
        · have e : decide (0 < s.size ∧ s.size ≤ 24) = true := decide_eq_true (by omega)
          replace HB := Lib.hid (HB.out.trans e)
          have h2 : (s.size : Int) ≤ 24 := by omega
          have h3 : (1 : Int) ≤ s.size := by omega
          clear e
          go_wp2_with fail
          go_ret
          exact ⟨by rw [HB.out]; rfl, (by repeat (first | exact G.refl _ | refine G.alloc ?_ _ | refine G.drewN ?_ _ | refine G.drew ?_ | refine G.trans ?_ (by assumption)))⟩
      · have e : decide (0 < s.size ∧ s.size ≤ 24) = false := decide_eq_false (by omega)
        replace HB := Lib.hid (HB.out.trans e)
        have h2 : (s.size : Int) < 1 := by omega
        clear e
        go_wp2_with fail
        go_ret
        exact ⟨by rw [HB.out]; rfl, (by repeat (first | exact G.refl _ | refine G.alloc ?_ _ | refine G.drewN ?_ _ | refine G.drew ?_ | refine G.trans ?_ (by assumption)))⟩
set_option maxHeartbeats 2000000 in
theorem rcheck31_any (M B C J : Int) (s : ByteArray) (d t : Int) (hsz : s.size < 9223372036854775807) (w : World) :
    Calls Tryd.prog 37 #[.agg #[.int .i64 M, .int .i64 B, .int .i64 C, .int .i64 J], .string s, .int .i64 d, .int .i64 t] w fun e w' => e = .returned (.int .i64 (rtE M B C J s d t)) ∧ G w w' := by
  have HN := Lib.hid (risname_any s hsz)
  by_cases hok : okR M B C J
  · have HC : Hid (chkE M B C J = 0) := Lib.hid (if_pos hok)
    have HR : Hid (rtE M B C J s d t = if nmB s = true then (if tmB d ∧ tmB t then 0 else 14) else 15) := Lib.hid (if_pos hok)
    rw [HR.out]
    clear HR hok
    cases hn : nmB s with
    | false =>
      rw [hn] at HN
      simp only [Bool.false_eq_true, if_false]
      clear hn
      go_enter Tryd.func37, Tryd.ntmps37
      go_wp2_with fail
      go_at_call 43
      refine (rcheck_any M B C J _).mono ?_
      rintro e w1 ⟨rfl, g1⟩
      rw [HC.out]
      go_wp2_with fail
      go_at_call 52
      refine (HN.out _).mono ?_
      rintro e w2 ⟨rfl, g2⟩
      go_wp2_with fail
      go_ret
      exact ⟨rfl, (by repeat (first | exact G.refl _ | refine G.alloc ?_ _ | refine G.drewN ?_ _ | refine G.drew ?_ | refine G.trans ?_ (by assumption)))⟩
    | true =>
      rw [hn] at HN
      simp only [if_true]
      clear hn
      by_cases hd : tmB d
      · have HD := Lib.hid (decide_eq_true hd)
        by_cases hx : tmB t
        · rw [if_pos ⟨hd, hx⟩]
          have HX := Lib.hid (decide_eq_true hx)
          clear hd hx
          go_enter Tryd.func37, Tryd.ntmps37
          go_wp2_with fail
          go_at_call 43
          refine (rcheck_any M B C J _).mono ?_
          rintro e w1 ⟨rfl, g1⟩
          rw [HC.out]
          go_wp2_with fail
          go_at_call 52
          refine (HN.out _).mono ?_
          rintro e w2 ⟨rfl, g2⟩
          go_wp2_with fail
          go_at_call 44
          refine (rvalid_b d true HD.out _).mono ?_
          rintro e w3 ⟨rfl, rfl⟩
          go_wp2_with fail
          go_at_call 44
          refine (rvalid_b t true HX.out _).mono ?_
          rintro e w3 ⟨rfl, rfl⟩
          go_wp2_with fail
          go_ret
          exact ⟨rfl, (by repeat (first | exact G.refl _ | refine G.alloc ?_ _ | refine G.drewN ?_ _ | refine G.drew ?_ | refine G.trans ?_ (by assumption)))⟩
        · rw [if_neg (fun h => hx h.2)]
          have HX := Lib.hid (decide_eq_false hx)
          clear hd hx
          go_enter Tryd.func37, Tryd.ntmps37
          go_wp2_with fail
          go_at_call 43
          refine (rcheck_any M B C J _).mono ?_
          rintro e w1 ⟨rfl, g1⟩
          rw [HC.out]
          go_wp2_with fail
          go_at_call 52
          refine (HN.out _).mono ?_
          rintro e w2 ⟨rfl, g2⟩
          go_wp2_with fail
          go_at_call 44
          refine (rvalid_b d true HD.out _).mono ?_
          rintro e w3 ⟨rfl, rfl⟩
          go_wp2_with fail
          go_at_call 44
          refine (rvalid_b t false HX.out _).mono ?_
          rintro e w3 ⟨rfl, rfl⟩
          go_wp2_with fail
          go_ret
          exact ⟨rfl, (by repeat (first | exact G.refl _ | refine G.alloc ?_ _ | refine G.drewN ?_ _ | refine G.drew ?_ | refine G.trans ?_ (by assumption)))⟩
      · rw [if_neg (fun h => hd h.1)]
        have HD := Lib.hid (decide_eq_false hd)
        clear hd
        go_enter Tryd.func37, Tryd.ntmps37
        go_wp2_with fail
        go_at_call 43
        refine (rcheck_any M B C J _).mono ?_
        rintro e w1 ⟨rfl, g1⟩
        rw [HC.out]
        go_wp2_with fail
        go_at_call 52
        refine (HN.out _).mono ?_
        rintro e w2 ⟨rfl, g2⟩
        go_wp2_with fail
        go_at_call 44
        refine (rvalid_b d false HD.out _).mono ?_
        rintro e w3 ⟨rfl, rfl⟩
        go_wp2_with fail
        go_ret
        exact ⟨rfl, (by repeat (first | exact G.refl _ | refine G.alloc ?_ _ | refine G.drewN ?_ _ | refine G.drew ?_ | refine G.trans ?_ (by assumption)))⟩
  · have HC : Hid (chkE M B C J = 16) := Lib.hid (if_neg hok)
    have HR : Hid (rtE M B C J s d t = 16) := Lib.hid (if_neg hok)
    rw [HR.out]
    clear HR hok
    go_enter Tryd.func37, Tryd.ntmps37
    go_wp2_with fail
    go_at_call 43
    refine (rcheck_any M B C J _).mono ?_
    rintro e w1 ⟨rfl, g1⟩
    rw [HC.out]
    go_wp2_with fail
    go_ret
    exact ⟨rfl, (by repeat (first | exact G.refl _ | refine G.alloc ?_ _ | refine G.drewN ?_ _ | refine G.drew ?_ | refine G.trans ?_ (by assumption)))⟩
set_option maxHeartbeats 2000000 in
theorem rafter_any (M B C J a : Int) (s : ByteArray) (d k : Int) (ha : u64 a) (hsz : s.size < 9223372036854775807) (k0 : -9223372036854775808 ≤ k) (k1 : k ≤ 9223372036854775807) (w : World) :
    Calls Tryd.prog 39 #[.agg #[.int .i64 M, .int .i64 B, .int .i64 C, .int .i64 J], .int .u64 a, .string s, .int .i64 d, .int .i64 k] w fun e w' => e = .returned (.int .i64 (aft M B C J a s d k)) ∧ G w w' := by
  have HW1 := Lib.hid (rbwait_any M B C J k)
  have HW2 := Lib.hid (rwait_any a s d k J ha hsz k0 k1)
  obtain ⟨p0, p1⟩ := waitI_bd M B C J k
  obtain ⟨q0, q1⟩ := jwV_bd a s d k J
  unfold aft
  generalize waitI M B C J k = p at *
  generalize jwV a s d k J = q at *
  generalize waitE M B C J k = pe at *
  generalize jwE s d k J = qe at *
  go_enter Tryd.func39, Tryd.ntmps39
  go_wp2_with fail
  go_at_call 45
  refine (HW1.out _).mono ?_
  rintro e w1 ⟨rfl, g1⟩
  have hb : Blk w1 w.heap.size 23 #[.int .i64 M, .int .i64 B, .int .i64 C, .int .i64 J] := Blk.g (Blk.new w _ _) g1
  have gW : G w w1 := ((G.refl w).alloc _).trans g1
  have c3 : w1.cell? ⟨w.heap.size, 3, none⟩ = some (.int .i64 J) := hb.cell 3
  clear hb g1
  go_wp2_with fail
  go_at_call 53
  refine (HW2.out _).mono ?_
  rintro e w2 ⟨rfl, g2⟩
  go_wp2_with fail
  go_ret
  exact ⟨rfl, gW.trans g2⟩
set_option maxHeartbeats 2000000 in
theorem rnext_any (M B C J a : Int) (s : ByteArray) (d k t : Int) (ha : u64 a) (hsz : s.size < 9223372036854775807) (k0 : -9223372036854775808 ≤ k) (k1 : k ≤ 9223372036854775807) (w : World) :
    Calls Tryd.prog 18 #[.agg #[.int .i64 M, .int .i64 B, .int .i64 C, .int .i64 J], .int .u64 a, .string s, .int .i64 d, .int .i64 k, .int .i64 t] w fun e w' => e = .returned (.tuple #[.int .i64 (nxV M B C J a s d k t), .bool (nxB M B C J s d k t), .int .i64 (nxE M B C J s d k t)]) ∧ G w w' := by
  have HQ := Lib.hid (rcheck31_any M B C J s d t hsz)
  have HF := Lib.hid (rafter_any M B C J a s d k ha hsz k0 k1)
  by_cases hE : rtE M B C J s d t = 0
  · have HE : Hid (nxE M B C J s d k t = lfE M B C J k) := Lib.hid (if_pos hE)
    obtain ⟨hok, hn, hd, hx⟩ := rtE_ok hE
    obtain ⟨⟨m0, m1⟩, -⟩ := okR_bd hok
    rw [hE] at HQ
    unfold tmB at hx
    by_cases hk : 1 ≤ k ∧ k ≤ M + 1
    · have HLE : Hid (lfE M B C J k = 0) := Lib.hid (by unfold lfE; rw [if_pos hok, if_pos hk])
      by_cases hm : k ≤ M
      · have HB : Hid (nxB M B C J s d k t = true) := Lib.hid (decide_eq_true ⟨by rw [HE.out, HLE.out], hm⟩)
        have HV : Hid (nxV M B C J a s d k t = t + aft M B C J a s d k) := Lib.hid (if_pos HB.out)
        have hab := aft_bd M B C J a s d k
        rw [HV.out, HB.out, HE.out, HLE.out]
        generalize aft M B C J a s d k = q at *
        obtain ⟨a0, a1⟩ := hab
        obtain ⟨x0, x1⟩ := hx
        obtain ⟨y0, y1⟩ := hk
        have hne : (k == M + 1) = false := by simp; omega
        clear HE HLE HB HV hE hok hn hd
        go_enter Tryd.func18, Tryd.ntmps18
        go_wp2_with fail
        go_at_call 37
        refine (HQ.out _).mono ?_
        rintro e w1 ⟨rfl, g1⟩
        have hr : Blk w1 w.heap.size 23 #[.int .i64 M, .int .i64 B, .int .i64 C, .int .i64 J] := (Blk.new w _ _).g g1
        have c0 : w1.cell? ⟨w.heap.size, 0, none⟩ = some (.int .i64 M) := hr.cell 0
        have c1 : w1.cell? ⟨w.heap.size, 1, none⟩ = some (.int .i64 B) := hr.cell 1
        have c2 : w1.cell? ⟨w.heap.size, 2, none⟩ = some (.int .i64 C) := hr.cell 2
        have c3 : w1.cell? ⟨w.heap.size, 3, none⟩ = some (.int .i64 J) := hr.cell 3
        go_wp2_with fail
        go_at_call 39
        refine (HF.out _).mono ?_
        rintro e w2 ⟨rfl, g2⟩
        go_wp2_with fail
        go_ret3
        exact ⟨rfl, (by repeat (first | exact G.refl _ | refine G.alloc ?_ _ | refine G.drewN ?_ _ | refine G.drew ?_ | refine G.trans ?_ (by assumption)))⟩
      · obtain rfl : k = M + 1 := by omega
        have HB : Hid (nxB M B C J s d (M + 1) t = false) := Lib.hid (decide_eq_false (fun h => hm h.2))
        have HV : Hid (nxV M B C J a s d (M + 1) t = 0) := Lib.hid (if_neg (by rw [HB.out]; decide))
        rw [HV.out, HB.out, HE.out, HLE.out]
        obtain ⟨y0, y1⟩ := hk
        clear HE HLE HB HV hE hok hn hd hx HF hm y1
        go_enter Tryd.func18, Tryd.ntmps18
        go_wp2_with fail
        go_at_call 37
        refine (HQ.out _).mono ?_
        rintro e w1 ⟨rfl, g1⟩
        have hr : Blk w1 w.heap.size 23 #[.int .i64 M, .int .i64 B, .int .i64 C, .int .i64 J] := (Blk.new w _ _).g g1
        have c0 : w1.cell? ⟨w.heap.size, 0, none⟩ = some (.int .i64 M) := hr.cell 0
        have c1 : w1.cell? ⟨w.heap.size, 1, none⟩ = some (.int .i64 B) := hr.cell 1
        have c2 : w1.cell? ⟨w.heap.size, 2, none⟩ = some (.int .i64 C) := hr.cell 2
        have c3 : w1.cell? ⟨w.heap.size, 3, none⟩ = some (.int .i64 J) := hr.cell 3
        go_wp2_with fail
        go_ret3
        exact ⟨rfl, (by repeat (first | exact G.refl _ | refine G.alloc ?_ _ | refine G.drewN ?_ _ | refine G.drew ?_ | refine G.trans ?_ (by assumption)))⟩
    · have HLE : Hid (lfE M B C J k = 3) := Lib.hid (by unfold lfE; rw [if_pos hok, if_neg hk])
      have HB : Hid (nxB M B C J s d k t = false) := Lib.hid (decide_eq_false (fun h => by rw [HE.out, HLE.out] at h; omega))
      have HV : Hid (nxV M B C J a s d k t = 0) := Lib.hid (if_neg (by rw [HB.out]; decide))
      rw [HV.out, HB.out, HE.out, HLE.out]
      have hk2 : k < 1 ∨ 1 ≤ k ∧ M + 1 < k := by omega
      clear HE HLE HB HV hE hok hn hd hx HF hk
      rcases hk2 with hk | ⟨hk0, hk⟩
      all_goals (
        go_enter Tryd.func18, Tryd.ntmps18
        go_wp2_with fail
        go_at_call 37
        refine (HQ.out _).mono ?_
        rintro e w1 ⟨rfl, g1⟩
        have hr : Blk w1 w.heap.size 23 #[.int .i64 M, .int .i64 B, .int .i64 C, .int .i64 J] := (Blk.new w _ _).g g1
        have c0 : w1.cell? ⟨w.heap.size, 0, none⟩ = some (.int .i64 M) := hr.cell 0
        have c1 : w1.cell? ⟨w.heap.size, 1, none⟩ = some (.int .i64 B) := hr.cell 1
        have c2 : w1.cell? ⟨w.heap.size, 2, none⟩ = some (.int .i64 C) := hr.cell 2
        have c3 : w1.cell? ⟨w.heap.size, 3, none⟩ = some (.int .i64 J) := hr.cell 3
        go_wp2_with fail
        go_ret3
        exact ⟨rfl, (by repeat (first | exact G.refl _ | refine G.alloc ?_ _ | refine G.drewN ?_ _ | refine G.drew ?_ | refine G.trans ?_ (by assumption)))⟩)
  · have HE : Hid (nxE M B C J s d k t = rtE M B C J s d t) := Lib.hid (if_neg hE)
    have HB : Hid (nxB M B C J s d k t = false) := Lib.hid (decide_eq_false (fun h => hE (by rw [← HE.out]; exact h.1)))
    have HV : Hid (nxV M B C J a s d k t = 0) := Lib.hid (if_neg (by rw [HB.out]; decide))
    rw [HV.out, HB.out, HE.out]
    generalize rtE M B C J s d t = q at *
    have h0 : (q == 0) = false := by simpa using hE
    have h1 : (q != 0) = true := by simpa using hE
    clear HE HB HV hE HF
    go_enter Tryd.func18, Tryd.ntmps18
    go_wp2_with fail
    go_at_call 37
    refine (HQ.out _).mono ?_
    rintro e w1 ⟨rfl, g1⟩
    go_wp2_with fail
    go_ret3
    exact ⟨rfl, (by repeat (first | exact G.refl _ | refine G.alloc ?_ _ | refine G.drewN ?_ _ | refine G.drew ?_ | refine G.trans ?_ (by assumption)))⟩
set_option maxHeartbeats 2000000 in
theorem rleft_any (M B C J k : Int) (w : World) :
    Calls Tryd.prog 26 #[.agg #[.int .i64 M, .int .i64 B, .int .i64 C, .int .i64 J], .int .i64 k] w fun e w' => e = .returned (.tuple #[.int .i64 (lfV M B C J k), .int .i64 (lfE M B C J k)]) ∧ G w w' := by
  by_cases hok : okR M B C J
  · have HC : Hid (chkE M B C J = 0) := Lib.hid (if_pos hok)
    obtain ⟨⟨m0, m1⟩, -⟩ := okR_bd hok
    by_cases hk : 1 ≤ k ∧ k ≤ M + 1
    · have HE : Hid (lfE M B C J k = 0) := Lib.hid (by unfold lfE; rw [if_pos hok, if_pos hk])
      have HV : Hid (lfV M B C J k = M + 1 - k) := Lib.hid (if_pos ⟨hok, hk⟩)
      rw [HE.out, HV.out]
      clear HE HV hok
      obtain ⟨k0, k1⟩ := hk
      go_enter Tryd.func26, Tryd.ntmps26
      go_wp2_with fail
      go_at_call 43
      refine (rcheck_any M B C J _).mono ?_
      rintro e w1 ⟨rfl, g1⟩
      rw [HC.out]
      have hr : Blk w1 w.heap.size 23 #[.int .i64 M, .int .i64 B, .int .i64 C, .int .i64 J] := (Blk.new w _ _).g g1
      have c0 : w1.cell? ⟨w.heap.size, 0, none⟩ = some (.int .i64 M) := hr.cell 0
      have c1 : w1.cell? ⟨w.heap.size, 1, none⟩ = some (.int .i64 B) := hr.cell 1
      have c2 : w1.cell? ⟨w.heap.size, 2, none⟩ = some (.int .i64 C) := hr.cell 2
      have c3 : w1.cell? ⟨w.heap.size, 3, none⟩ = some (.int .i64 J) := hr.cell 3
      go_wp2_with fail
      go_ret2
      exact ⟨rfl, (by repeat (first | exact G.refl _ | refine G.alloc ?_ _ | refine G.drewN ?_ _ | refine G.drew ?_ | refine G.trans ?_ (by assumption)))⟩
    · have HE : Hid (lfE M B C J k = 3) := Lib.hid (by unfold lfE; rw [if_pos hok, if_neg hk])
      have HV : Hid (lfV M B C J k = 0) := Lib.hid (if_neg (fun h => hk h.2))
      rw [HE.out, HV.out]
      have hk2 : k < 1 ∨ 1 ≤ k ∧ M + 1 < k := by omega
      clear HE HV hok hk
      rcases hk2 with hk | ⟨hk0, hk⟩
      all_goals (
        go_enter Tryd.func26, Tryd.ntmps26
        go_wp2_with fail
        go_at_call 43
        refine (rcheck_any M B C J _).mono ?_
        rintro e w1 ⟨rfl, g1⟩
        rw [HC.out]
        have hr : Blk w1 w.heap.size 23 #[.int .i64 M, .int .i64 B, .int .i64 C, .int .i64 J] := (Blk.new w _ _).g g1
        have c0 : w1.cell? ⟨w.heap.size, 0, none⟩ = some (.int .i64 M) := hr.cell 0
        have c1 : w1.cell? ⟨w.heap.size, 1, none⟩ = some (.int .i64 B) := hr.cell 1
        have c2 : w1.cell? ⟨w.heap.size, 2, none⟩ = some (.int .i64 C) := hr.cell 2
        have c3 : w1.cell? ⟨w.heap.size, 3, none⟩ = some (.int .i64 J) := hr.cell 3
        go_wp2_with fail
        go_ret2
        exact ⟨rfl, (by repeat (first | exact G.refl _ | refine G.alloc ?_ _ | refine G.drewN ?_ _ | refine G.drew ?_ | refine G.trans ?_ (by assumption)))⟩)
  · have HC : Hid (chkE M B C J = 16) := Lib.hid (if_neg hok)
    have HE : Hid (lfE M B C J k = 16) := Lib.hid (if_neg hok)
    have HV : Hid (lfV M B C J k = 0) := Lib.hid (if_neg (fun h => hok h.1))
    rw [HE.out, HV.out]
    clear HE HV hok
    go_enter Tryd.func26, Tryd.ntmps26
    go_wp2_with fail
    go_at_call 43
    refine (rcheck_any M B C J _).mono ?_
    rintro e w1 ⟨rfl, g1⟩
    rw [HC.out]
    go_wp2_with fail
    go_ret2
    exact ⟨rfl, (by repeat (first | exact G.refl _ | refine G.alloc ?_ _ | refine G.drewN ?_ _ | refine G.drew ?_ | refine G.trans ?_ (by assumption)))⟩
set_option maxHeartbeats 2000000 in
theorem rearliest_any (M B C J k t : Int) (w : World) :
    Calls Tryd.prog 22 #[.agg #[.int .i64 M, .int .i64 B, .int .i64 C, .int .i64 J], .int .i64 k, .int .i64 t] w fun e w' => e = .returned (.tuple #[.int .i64 (erV M B C J k t), .int .i64 (erE M B C J k t)]) ∧ G w w' := by
  by_cases hok : okR M B C J
  · have HC : Hid (chkE M B C J = 0) := Lib.hid (if_pos hok)
    by_cases hx : tmB t
    · have HE : Hid (erE M B C J k t = waitE M B C J k) := Lib.hid (by unfold erE; rw [if_pos hok, if_pos hx])
      have HX := Lib.hid (decide_eq_true hx)
      by_cases hk : 1 ≤ k ∧ k ≤ M
      · have HW : Hid (waitE M B C J k = 0) := Lib.hid (by unfold waitE; rw [if_pos hok, if_pos hk])
        have HV : Hid (erV M B C J k t = t + waitI M B C J k) := Lib.hid (by unfold erV; rw [HE.out, HW.out]; rfl)
        obtain ⟨p0, p1⟩ := waitI_bd M B C J k
        rw [HE.out, HV.out, HW.out]
        obtain ⟨x0, x1⟩ := hx
        obtain ⟨y0, y1⟩ := hk
        clear HE HV hok
        have HB := Lib.hid (rbwait_any M B C J k)
        rw [HW.out] at HB
        clear HW
        generalize waitI M B C J k = p at *
        go_enter Tryd.func22, Tryd.ntmps22
        go_wp2_with fail
        go_at_call 43
        refine (rcheck_any M B C J _).mono ?_
        rintro e w1 ⟨rfl, g1⟩
        rw [HC.out]
        have hr : Blk w1 w.heap.size 23 #[.int .i64 M, .int .i64 B, .int .i64 C, .int .i64 J] := (Blk.new w _ _).g g1
        have c0 : w1.cell? ⟨w.heap.size, 0, none⟩ = some (.int .i64 M) := hr.cell 0
        have c1 : w1.cell? ⟨w.heap.size, 1, none⟩ = some (.int .i64 B) := hr.cell 1
        have c2 : w1.cell? ⟨w.heap.size, 2, none⟩ = some (.int .i64 C) := hr.cell 2
        have c3 : w1.cell? ⟨w.heap.size, 3, none⟩ = some (.int .i64 J) := hr.cell 3
        go_wp2_with fail
        go_at_call 44
        refine (rvalid_b t true HX.out _).mono ?_
        rintro e w3 ⟨rfl, rfl⟩
        go_wp2_with fail
        go_at_call 45
        refine (HB.out _).mono ?_
        rintro e w2 ⟨rfl, g2⟩
        go_wp2_with fail
        go_ret2
        exact ⟨rfl, (by repeat (first | exact G.refl _ | refine G.alloc ?_ _ | refine G.drewN ?_ _ | refine G.drew ?_ | refine G.trans ?_ (by assumption)))⟩
      · have HW : Hid (waitE M B C J k = 3) := Lib.hid (by unfold waitE; rw [if_pos hok, if_neg hk])
        have HV : Hid (erV M B C J k t = 0) := Lib.hid (by unfold erV; rw [HE.out, HW.out]; rfl)
        rw [HE.out, HV.out, HW.out]
        have hk2 : k < 1 ∨ 1 ≤ k ∧ M < k := by omega
        clear HE HV HW hok hx hk
        rcases hk2 with hk | ⟨hk0, hk⟩
        all_goals (
          go_enter Tryd.func22, Tryd.ntmps22
          go_wp2_with fail
          go_at_call 43
          refine (rcheck_any M B C J _).mono ?_
          rintro e w1 ⟨rfl, g1⟩
          rw [HC.out]
          have hr : Blk w1 w.heap.size 23 #[.int .i64 M, .int .i64 B, .int .i64 C, .int .i64 J] := (Blk.new w _ _).g g1
          have c0 : w1.cell? ⟨w.heap.size, 0, none⟩ = some (.int .i64 M) := hr.cell 0
          have c1 : w1.cell? ⟨w.heap.size, 1, none⟩ = some (.int .i64 B) := hr.cell 1
          have c2 : w1.cell? ⟨w.heap.size, 2, none⟩ = some (.int .i64 C) := hr.cell 2
          have c3 : w1.cell? ⟨w.heap.size, 3, none⟩ = some (.int .i64 J) := hr.cell 3
          go_wp2_with fail
          go_at_call 44
          refine (rvalid_b t true HX.out _).mono ?_
          rintro e w3 ⟨rfl, rfl⟩
          go_wp2_with fail
          go_ret2
          exact ⟨rfl, (by repeat (first | exact G.refl _ | refine G.alloc ?_ _ | refine G.drewN ?_ _ | refine G.drew ?_ | refine G.trans ?_ (by assumption)))⟩)
    · have HE : Hid (erE M B C J k t = 14) := Lib.hid (by unfold erE; rw [if_pos hok, if_neg hx])
      have HV : Hid (erV M B C J k t = 0) := Lib.hid (by unfold erV; rw [HE.out]; rfl)
      rw [HE.out, HV.out]
      have HX := Lib.hid (decide_eq_false hx)
      clear hx hok HE HV
      go_enter Tryd.func22, Tryd.ntmps22
      go_wp2_with fail
      go_at_call 43
      refine (rcheck_any M B C J _).mono ?_
      rintro e w1 ⟨rfl, g1⟩
      rw [HC.out]
      go_wp2_with fail
      go_at_call 44
      refine (rvalid_b t false HX.out _).mono ?_
      rintro e w3 ⟨rfl, rfl⟩
      go_wp2_with fail
      go_ret2
      exact ⟨rfl, (by repeat (first | exact G.refl _ | refine G.alloc ?_ _ | refine G.drewN ?_ _ | refine G.drew ?_ | refine G.trans ?_ (by assumption)))⟩
  · have HC : Hid (chkE M B C J = 16) := Lib.hid (if_neg hok)
    have HE : Hid (erE M B C J k t = 16) := Lib.hid (if_neg hok)
    have HV : Hid (erV M B C J k t = 0) := Lib.hid (by unfold erV; rw [HE.out]; rfl)
    rw [HE.out, HV.out]
    clear HE HV hok
    go_enter Tryd.func22, Tryd.ntmps22
    go_wp2_with fail
    go_at_call 43
    refine (rcheck_any M B C J _).mono ?_
    rintro e w1 ⟨rfl, g1⟩
    rw [HC.out]
    go_wp2_with fail
    go_ret2
    exact ⟨rfl, (by repeat (first | exact G.refl _ | refine G.alloc ?_ _ | refine G.drewN ?_ _ | refine G.drew ?_ | refine G.trans ?_ (by assumption)))⟩
set_option maxHeartbeats 2000000 in
theorem rallowed_any (M B C J k t x : Int) (w : World) :
    Calls Tryd.prog 24 #[.agg #[.int .i64 M, .int .i64 B, .int .i64 C, .int .i64 J], .int .i64 k, .int .i64 t, .int .i64 x] w fun e w' => e = .returned (.tuple #[.bool (alB M B C J k t x), .int .i64 (erE M B C J k t)]) ∧ G w w' := by
  have HQ := Lib.hid (rearliest_any M B C J k t)
  by_cases hE : erE M B C J k t = 0
  · obtain ⟨hok, hx, hk⟩ := erE_ok hE
    obtain ⟨-, j0, j1⟩ := okR_bd hok
    have hv : 0 ≤ erV M B C J k t ∧ erV M B C J k t ≤ 322121777535 := by
      unfold erV
      rw [if_pos hE]
      have := waitI_bd M B C J k
      unfold tmB at hx
      omega
    have HA : Hid (alB M B C J k t x = decide (erV M B C J k t ≤ x ∧ x < erV M B C J k t + max J 1)) := Lib.hid (by unfold alB; rw [hE]; simp)
    rw [hE] at HQ ⊢
    rw [HA.out]
    generalize erV M B C J k t = v at *
    obtain ⟨v0, v1⟩ := hv
    clear hE hok hx hk HA
    by_cases hj : J = 0
    · subst hj
      have HD : Hid (decide (v ≤ x ∧ x < v + max 0 1) = (x == v)) := Lib.hid (by
        by_cases e : x = v
        · subst e
          have : (x == x) = true := by simp
          rw [this]
          exact decide_eq_true (by omega)
        · have : (x == v) = false := by simpa using e
          rw [this]
          exact decide_eq_false (by omega))
      rw [HD.out]
      clear HD
      go_enter Tryd.func24, Tryd.ntmps24
      go_wp2_with fail
      go_at_call 22
      refine (HQ.out _).mono ?_
      rintro e w1 ⟨rfl, g1⟩
      have hb : Blk w1 w.heap.size 23 #[.int .i64 M, .int .i64 B, .int .i64 C, .int .i64 0] := Blk.g (Blk.new w _ _) g1
      have c3 : w1.cell? ⟨w.heap.size, 3, none⟩ = some (.int .i64 0) := hb.cell 3
      go_wp2_with fail
      go_ret2
      exact ⟨rfl, (by repeat (first | exact G.refl _ | refine G.alloc ?_ _ | refine G.drewN ?_ _ | refine G.drew ?_ | refine G.trans ?_ (by assumption)))⟩
    · have hj2 : (J == 0) = false := by simpa using hj
      rw [show max J 1 = J by omega]
      by_cases h1 : v ≤ x
      · have HD : Hid (decide (v ≤ x ∧ x < v + J) = decide (x < v + J)) := Lib.hid (by simp [h1])
        rw [HD.out]
        clear HD hj
        go_enter Tryd.func24, Tryd.ntmps24
        go_wp2_with fail
        go_at_call 22
        refine (HQ.out _).mono ?_
        rintro e w1 ⟨rfl, g1⟩
        have hb : Blk w1 w.heap.size 23 #[.int .i64 M, .int .i64 B, .int .i64 C, .int .i64 J] := Blk.g (Blk.new w _ _) g1
        have c3 : w1.cell? ⟨w.heap.size, 3, none⟩ = some (.int .i64 J) := hb.cell 3
        go_wp2_with fail
        go_ret2
        exact ⟨rfl, (by repeat (first | exact G.refl _ | refine G.alloc ?_ _ | refine G.drewN ?_ _ | refine G.drew ?_ | refine G.trans ?_ (by assumption)))⟩
      · have HD : Hid (decide (v ≤ x ∧ x < v + J) = false) := Lib.hid (by simp; omega)
        rw [HD.out]
        have h2 : x < v := by omega
        clear HD h1 hj
        go_enter Tryd.func24, Tryd.ntmps24
        go_wp2_with fail
        go_at_call 22
        refine (HQ.out _).mono ?_
        rintro e w1 ⟨rfl, g1⟩
        have hb : Blk w1 w.heap.size 23 #[.int .i64 M, .int .i64 B, .int .i64 C, .int .i64 J] := Blk.g (Blk.new w _ _) g1
        have c3 : w1.cell? ⟨w.heap.size, 3, none⟩ = some (.int .i64 J) := hb.cell 3
        go_wp2_with fail
        go_ret2
        exact ⟨rfl, (by repeat (first | exact G.refl _ | refine G.alloc ?_ _ | refine G.drewN ?_ _ | refine G.drew ?_ | refine G.trans ?_ (by assumption)))⟩
  · have HA : Hid (alB M B C J k t x = false) := Lib.hid (by unfold alB; exact decide_eq_false (fun h => hE h.1))
    have hV : erV M B C J k t = 0 := if_neg hE
    rw [HA.out]
    rw [hV] at HQ
    generalize erE M B C J k t = q at *
    have h0 : (q == 0) = false := by simpa using hE
    have h1 : (q != 0) = true := by simpa using hE
    clear HA hE hV
    go_enter Tryd.func24, Tryd.ntmps24
    go_wp2_with fail
    go_at_call 22
    refine (HQ.out _).mono ?_
    rintro e w1 ⟨rfl, g1⟩
    go_wp2_with fail
    go_ret2
    exact ⟨rfl, (by repeat (first | exact G.refl _ | refine G.alloc ?_ _ | refine G.drewN ?_ _ | refine G.drew ?_ | refine G.trans ?_ (by assumption)))⟩
end Go.Proofs.YtanipfenioaigaaDoor
