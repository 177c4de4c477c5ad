/-
  BackoffSums: the total is the sum of all waits; as many as fit into a span are together at most the span, and with the next one more.
-/
import Derived.Test.YtabgddiecddbhaaTieR
import Derived.Test.YtabgddiecddbhaaBkX
set_option linter.unusedVariables false
set_option linter.unusedSimpArgs false
namespace Go.Proofs.Ytabgddiecddbhaa.lawBackoffSums
open Go.ChangeShapes Go.WideShapes Go.ChangeAt Go.RowKit

theorem with_ {m : Nat} {B C J k : Int} (hok : okR m B C J) (s0 : 0 ≤ k) (s1 : k ≤ 68719476736) : ∃ N : Nat, N ≤ m ∧ withI m B C J k = N ∧ (sumW B C (List.range N) ≤ k ∧ (N < m → k < sumW B C (List.range (N + 1)))) := by
  have e : withI m B C J k = (match withO m B C J k with | some i => (i : Int) | none => (m : Int)) := if_pos ⟨hok, s0, s1⟩
  rcases hO : withO m B C J k with _ | i
  · rw [hO] at e
    refine ⟨m, Nat.le_refl _, e, ?_, fun h => by omega⟩
    unfold withO at hO
    rw [Int.toNat_natCast, List.find?_eq_none] at hO
    cases m with
    | zero => simpa [sumW] using s0
    | succ q => simpa using hO q (by simp)
  · rw [hO] at e
    unfold withO at hO
    rw [Int.toNat_natCast, List.find?_range_eq_some] at hO
    obtain ⟨h1, h2, h3⟩ := hO
    have h2 : i < m := by simpa using h2
    refine ⟨i, by omega, e, ?_, fun _ => by simpa using h1⟩
    cases i with
    | zero => simpa [sumW] using s0
    | succ q => simpa using h3 q (by omega)
theorem with2_ {m N : Nat} {B C J k : Int} (hok : okR m B C J) (s0 : 0 < k) (s1 : k ≤ 68719476736) (hN : N ≤ m) (h : sumW B C (List.range N) ≤ k ∧ (N < m → k < sumW B C (List.range (N + 1)))) : ∃ N2 : Nat, N2 ≤ N ∧ withI m B C J (k - 1) = N2 ∧ withE m B C J (k - 1) = 0 := by
  obtain ⟨N2, h1, h2, h3, -⟩ := with_ (k := k - 1) hok (by omega) (by omega)
  refine ⟨N2, ?_, h2, by unfold withE; rw [if_pos hok, if_pos ⟨by omega, by omega⟩]⟩
  apply Nat.le_of_not_lt
  intro hlt
  have := h.2 (by omega)
  have := sumW_mono hok (show N + 1 ≤ N2 by omega)
  omega
set_option maxRecDepth 20000 in
set_option maxHeartbeats 2000000 in
theorem walk {w : World} (M B C J : Int) (k : Int) (k0 : -9223372036854775808 ≤ k) (k1 : k ≤ 9223372036854775807) :
    Calls Try.prog 8 #[.agg #[.int .i64 M, .int .i64 B, .int .i64 C, .int .i64 J], .int .i64 k] w fun e w' => e = .returned (.bool true) ∧ G w w' := by
  by_cases hok : okR M B C J
  · obtain ⟨m, rfl⟩ : ∃ m : Nat, M = m := ⟨M.toNat, by unfold okR at hok; omega⟩
    have hm : m ≤ 20 := by unfold okR at hok; omega
    have HC : Hid (chkE m B C J = 0) := Lib.hid (if_pos hok)
    have HLN : Hid ((waitsL m B C J).length = m) := Lib.hid (by rw [waits_len_ok hok, Int.toNat_natCast])
    have HA : Hid (∀ k, k < m → at_ (waitsL m B C J) k = wAt B C k) := Lib.hid (fun k hk => (waits_at (by rw [HLN.out]; exact hk)).2.2)
    have HOK := Lib.hid hok
    clear hok
    have HT : Hid (totI m B C J = sumW B C (List.range m)) := Lib.hid (by have : totI m B C J = sumW B C (List.range (m : Int).toNat) := if_pos HOK.out; rw [this, Int.toNat_natCast])
    by_cases hs : 0 ≤ k ∧ k ≤ 68719476736
    · obtain ⟨s0, s1⟩ := hs
      obtain ⟨N, hNm, hW, hN⟩ := with_ HOK.out s0 s1
      have HN := Lib.hid hN
      have HM : Hid (0 < k → ∃ N2 : Nat, N2 ≤ N ∧ withI m B C J (k - 1) = N2 ∧ withE m B C J (k - 1) = 0) := Lib.hid (fun h => with2_ HOK.out h s1 hNm hN)
      have HWI : Hid (withI m B C J k = (N : Int)) := Lib.hid hW
      have HWE : Hid (withE m B C J k = 0) := Lib.hid (by unfold withE; rw [if_pos HOK.out, if_pos ⟨s0, s1⟩])
      clear hN hW
      have p0 : decide (k < 0) = false := by simp; omega
      have p1 : decide (68719476736 < k) = false := by simp; omega
      have p2 : decide ((m : Int) < (N : Int)) = false := by simp; omega
      have p3 : decide (m < N) = false := by simp; omega
      have p4 : decide ((N : Int) < 0) = false := by simp <;> omega
      go_enter Try.func8, Try.ntmps8
      have hX := Blk.new w 23 #[.int .i64 m, .int .i64 B, .int .i64 C, .int .i64 J]
      have gX : G w (w.alloc (.cells #[.int .i64 m, .int .i64 B, .int .i64 C, .int .i64 J] 23)) := (by repeat (first | exact G.refl _ | refine G.alloc ?_ _ | refine G.drewN ?_ _ | refine G.drew ?_ | refine G.trans ?_ (by assumption)))
      go_wp2_with fail
      go_at_call 14
      refine (check_any m B C J _).mono ?_
      rintro e v1 ⟨rfl, g⟩
      rw [HC.out]
      replace hX := hX.g g
      replace gX := gX.trans g
      clear g
      have x0 : v1.cell? ⟨w.heap.size, 0, none⟩ = some (.int .i64 m) := hX.cell 0
      have x1 : v1.cell? ⟨w.heap.size, 1, none⟩ = some (.int .i64 B) := hX.cell 1
      have x2 : v1.cell? ⟨w.heap.size, 2, none⟩ = some (.int .i64 C) := hX.cell 2
      have x3 : v1.cell? ⟨w.heap.size, 3, none⟩ = some (.int .i64 J) := hX.cell 3
      go_wp2_with fail
      go_at_call 17
      refine (list_any m B C J _).mono ?_
      rintro e v2 ⟨v, rfl, own, g⟩
      rw [HC.out]
      have hR1 := Rd.of_own own
      clear own
      clear x0 x1 x2 x3
      replace hX := hX.g g
      replace gX := gX.trans g
      clear g
      have x0 : v2.cell? ⟨w.heap.size, 0, none⟩ = some (.int .i64 m) := hX.cell 0
      have x1 : v2.cell? ⟨w.heap.size, 1, none⟩ = some (.int .i64 B) := hX.cell 1
      have x2 : v2.cell? ⟨w.heap.size, 2, none⟩ = some (.int .i64 C) := hX.cell 2
      have x3 : v2.cell? ⟨w.heap.size, 3, none⟩ = some (.int .i64 J) := hX.cell 3
      go_wp2_with fail
      go_at_call 19
      refine (total_any m B C J _).mono ?_
      rintro e v3 ⟨rfl, g⟩
      rw [HC.out, HT.out]
      replace hR1 := hR1.g g
      clear x0 x1 x2 x3
      replace hX := hX.g g
      replace gX := gX.trans g
      clear g
      have x0 : v3.cell? ⟨w.heap.size, 0, none⟩ = some (.int .i64 m) := hX.cell 0
      have x1 : v3.cell? ⟨w.heap.size, 1, none⟩ = some (.int .i64 B) := hX.cell 1
      have x2 : v3.cell? ⟨w.heap.size, 2, none⟩ = some (.int .i64 C) := hX.cell 2
      have x3 : v3.cell? ⟨w.heap.size, 3, none⟩ = some (.int .i64 J) := hX.cell 3
      go_wp2_with fail
      go_at_call 26
      refine (within_any m B C J k _).mono ?_
      rintro e v4 ⟨rfl, g⟩
      rw [HWI.out, HWE.out]
      replace hR1 := hR1.g g
      clear x0 x1 x2 x3
      replace hX := hX.g g
      replace gX := gX.trans g
      clear g
      have x0 : v4.cell? ⟨w.heap.size, 0, none⟩ = some (.int .i64 m) := hX.cell 0
      have x1 : v4.cell? ⟨w.heap.size, 1, none⟩ = some (.int .i64 B) := hX.cell 1
      have x2 : v4.cell? ⟨w.heap.size, 2, none⟩ = some (.int .i64 C) := hX.cell 2
      have x3 : v4.cell? ⟨w.heap.size, 3, none⟩ = some (.int .i64 J) := hX.cell 3
      obtain ⟨A, cap, rfl, hcap, hmax, hrd⟩ := hR1
      rw [vI_len, HLN.out] at hcap hrd
      rw [vI_len, HLN.out]
      have HR : Hid (∀ k, k < m → ∃ b o, A = some ⟨b, o, none⟩ ∧ v4.cell? ⟨b, o + k, none⟩ = some (.int .i64 (wAt B C k))) := Lib.hid (fun k hk => by
        obtain ⟨b, o, e, hc⟩ := hrd (by omega)
        exact ⟨b, o, e, by rw [← HA.out k hk]; exact at_vQ hc (by rw [HLN.out]; exact hk)⟩)
      clear hrd HLN HA
      go_wp2_with fail
      go_loopw [11, 12] (fun sv iv wr => ∃ i : Nat, i ≤ m ∧ iv = .int .i64 i ∧ sv = .int .i64 (sumW B C (List.range i)) ∧ G v4 wr) (fun _ iv _ => m - (intOf iv).toNat)
      case atStart => exact ⟨0, by omega, rfl, rfl, G.refl _⟩
      case round =>
        obtain ⟨i, him, rfl, rfl, hg⟩ := hrel
        by_cases hlt : i < m
        · obtain ⟨b, o, rfl, d0⟩ := HR.out i hlt
          have d0 := hg.cell (World.block_lt_of_cell? v4 _ d0) d0
          have hil : (i : Int) < m := by omega
          have HE := Lib.hid (sumW_succ B C i)
          have b1 := wAt_bound HOK.out i
          have b2 := sumW_bound HOK.out (List.range i)
          rw [List.length_range] at b2
          generalize wAt B C i = x at *
          generalize sumW B C (List.range i) = y at *
          clear x0 x1 x2 x3
          go_wp2_with fail
          go_roundw
          case rel => exact ⟨i + 1, by omega, by go_num, by rw [HE.out], hg⟩
          case measure => simp [intOf]; omega
        · obtain rfl : i = m := by omega
          have hX5 := hX.g hg
          have gX5 := gX.trans hg
          have HR5 : Hid (∀ k, k < i → ∃ b o, A = some ⟨b, o, none⟩ ∧ wr.cell? ⟨b, o + k, none⟩ = some (.int .i64 (wAt B C k))) := Lib.hid (fun k hk => by
            obtain ⟨b, o, e, hc⟩ := HR.out k hk
            exact ⟨b, o, e, hg.cell (World.block_lt_of_cell? v4 _ hc) hc⟩)
          clear x0 x1 x2 x3 HR hX gX hg
          generalize sumW B C (List.range i) = Y at *
          obtain ⟨wo, rfl⟩ : ∃ wo : World, wo = wr := ⟨_, rfl⟩
          go_wp2_with fail
          go_loopw [13, 14] (fun sv iv wr => ∃ j : Nat, j ≤ N ∧ iv = .int .i64 j ∧ sv = .int .i64 (sumW B C (List.range j)) ∧ G wo wr) (fun _ iv _ => N - (intOf iv).toNat)
          case atStart => exact ⟨0, by omega, rfl, rfl, G.refl _⟩
          case round =>
            obtain ⟨j, hjN, rfl, rfl, hg⟩ := hrel
            have hX6 := hX5.g hg
            by_cases hlt : j < N
            · obtain ⟨b, o, rfl, d0⟩ := HR5.out j (by omega)
              have d0 := hg.cell (World.block_lt_of_cell? wo _ d0) d0
              have hil : (j : Int) < N := by omega
              have hil2 : (j : Int) < i := by omega
              have HE := Lib.hid (sumW_succ B C j)
              have b1 := wAt_bound HOK.out j
              have b2 := sumW_bound HOK.out (List.range j)
              rw [List.length_range] at b2
              generalize wAt B C j = x at *
              generalize sumW B C (List.range j) = y at *
              go_wp2_with fail
              go_roundw
              case rel => exact ⟨j + 1, by omega, by go_num, by rw [HE.out], hg⟩
              case measure => simp [intOf]; omega
            · obtain rfl : j = N := by omega
              have hs1 := HN.out.1
              have b2 := sumW_bound HOK.out (List.range j)
              rw [List.length_range] at b2
              have hp1 : decide (k < sumW B C (List.range j)) = false := by simp; omega
              by_cases hjm : j < i
              · obtain ⟨b, o, rfl, d0⟩ := HR5.out j hjm
                have d0 := hg.cell (World.block_lt_of_cell? wo _ d0) d0
                have hs2 := HN.out.2 hjm
                have b1 := wAt_bound HOK.out j
                rw [sumW_succ] at hs2
                have hjl : (j : Int) < i := by omega
                have hp2 : decide (sumW B C (List.range j) + wAt B C j ≤ k) = false := by simp; omega
                generalize wAt B C j = x at *
                generalize sumW B C (List.range j) = y at *
                by_cases hk0 : 0 < k
                · have y0 : wr.cell? ⟨w.heap.size, 0, none⟩ = some (.int .i64 i) := hX6.cell 0
                  have y1 : wr.cell? ⟨w.heap.size, 1, none⟩ = some (.int .i64 B) := hX6.cell 1
                  have y2 : wr.cell? ⟨w.heap.size, 2, none⟩ = some (.int .i64 C) := hX6.cell 2
                  have y3 : wr.cell? ⟨w.heap.size, 3, none⟩ = some (.int .i64 J) := hX6.cell 3
                  obtain ⟨N2, hN2, e1, e2⟩ := HM.out hk0
                  have HE1 := Lib.hid e1
                  have HE2 := Lib.hid e2
                  clear e1 e2
                  have hN3 : (N2 : Int) ≤ j := by omega
                  have hN4 : decide ((j : Int) < (N2 : Int)) = false := by simp; omega
                  have hN5 : decide (j < N2) = false := by simp; omega
                  go_wp2_with fail
                  go_at_call 26
                  refine (within_any _ _ _ _ _ _).mono ?_
                  rintro e v6 ⟨rfl, g6⟩
                  rw [HE1.out, HE2.out]
                  go_wp2_with fail
                  go_at_call 16
                  refine (works_any _).mono ?_
                  rintro e v7 ⟨rfl, g7⟩
                  go_wp2_with fail
                  go_ret
                  exact ⟨rfl, gX5.trans (hg.trans (g6.trans g7))⟩
                · have hk1 : decide (0 < k) = false := by simpa using hk0
                  go_wp2_with fail
                  go_at_call 16
                  refine (works_any _).mono ?_
                  rintro e v7 ⟨rfl, g7⟩
                  go_wp2_with fail
                  go_ret
                  exact ⟨rfl, gX5.trans (hg.trans g7)⟩
              · have hjl : decide ((j : Int) < (i : Int)) = false := by simp; omega
                have hjl2 : decide (j < i) = false := by simp; omega
                generalize sumW B C (List.range j) = y at *
                by_cases hk0 : 0 < k
                · have y0 : wr.cell? ⟨w.heap.size, 0, none⟩ = some (.int .i64 i) := hX6.cell 0
                  have y1 : wr.cell? ⟨w.heap.size, 1, none⟩ = some (.int .i64 B) := hX6.cell 1
                  have y2 : wr.cell? ⟨w.heap.size, 2, none⟩ = some (.int .i64 C) := hX6.cell 2
                  have y3 : wr.cell? ⟨w.heap.size, 3, none⟩ = some (.int .i64 J) := hX6.cell 3
                  obtain ⟨N2, hN2, e1, e2⟩ := HM.out hk0
                  have HE1 := Lib.hid e1
                  have HE2 := Lib.hid e2
                  clear e1 e2
                  have hN3 : (N2 : Int) ≤ j := by omega
                  have hN4 : decide ((j : Int) < (N2 : Int)) = false := by simp; omega
                  have hN5 : decide (j < N2) = false := by simp; omega
                  go_wp2_with fail
                  go_at_call 26
                  refine (within_any _ _ _ _ _ _).mono ?_
                  rintro e v6 ⟨rfl, g6⟩
                  rw [HE1.out, HE2.out]
                  go_wp2_with fail
                  go_at_call 16
                  refine (works_any _).mono ?_
                  rintro e v7 ⟨rfl, g7⟩
                  go_wp2_with fail
                  go_ret
                  exact ⟨rfl, gX5.trans (hg.trans (g6.trans g7))⟩
                · have hk1 : decide (0 < k) = false := by simpa using hk0
                  go_wp2_with fail
                  go_at_call 16
                  refine (works_any _).mono ?_
                  rintro e v7 ⟨rfl, g7⟩
                  go_wp2_with fail
                  go_ret
                  exact ⟨rfl, gX5.trans (hg.trans g7)⟩
    · have HWI : Hid (withI m B C J k = 0) := Lib.hid (if_neg (fun h => hs h.2))
      have HWE : Hid (withE m B C J k = 2) := Lib.hid (by unfold withE; rw [if_pos HOK.out, if_neg hs])
      by_cases hn : k < 0
      · have p0 : decide (k < 0) = true := by simpa using hn
        clear hs
        go_enter Try.func8, Try.ntmps8
        have hX := Blk.new w 23 #[.int .i64 m, .int .i64 B, .int .i64 C, .int .i64 J]
        have gX : G w (w.alloc (.cells #[.int .i64 m, .int .i64 B, .int .i64 C, .int .i64 J] 23)) := (by repeat (first | exact G.refl _ | refine G.alloc ?_ _ | refine G.drewN ?_ _ | refine G.drew ?_ | refine G.trans ?_ (by assumption)))
        go_wp2_with fail
        go_at_call 14
        refine (check_any m B C J _).mono ?_
        rintro e v1 ⟨rfl, g⟩
        rw [HC.out]
        replace hX := hX.g g
        replace gX := gX.trans g
        clear g
        have x0 : v1.cell? ⟨w.heap.size, 0, none⟩ = some (.int .i64 m) := hX.cell 0
        have x1 : v1.cell? ⟨w.heap.size, 1, none⟩ = some (.int .i64 B) := hX.cell 1
        have x2 : v1.cell? ⟨w.heap.size, 2, none⟩ = some (.int .i64 C) := hX.cell 2
        have x3 : v1.cell? ⟨w.heap.size, 3, none⟩ = some (.int .i64 J) := hX.cell 3
        go_wp2_with fail
        go_at_call 17
        refine (list_any m B C J _).mono ?_
        rintro e v2 ⟨v, rfl, own, g⟩
        rw [HC.out]
        have hR1 := Rd.of_own own
        clear own
        clear x0 x1 x2 x3
        replace hX := hX.g g
        replace gX := gX.trans g
        clear g
        have x0 : v2.cell? ⟨w.heap.size, 0, none⟩ = some (.int .i64 m) := hX.cell 0
        have x1 : v2.cell? ⟨w.heap.size, 1, none⟩ = some (.int .i64 B) := hX.cell 1
        have x2 : v2.cell? ⟨w.heap.size, 2, none⟩ = some (.int .i64 C) := hX.cell 2
        have x3 : v2.cell? ⟨w.heap.size, 3, none⟩ = some (.int .i64 J) := hX.cell 3
        go_wp2_with fail
        go_at_call 19
        refine (total_any m B C J _).mono ?_
        rintro e v3 ⟨rfl, g⟩
        rw [HC.out, HT.out]
        replace hR1 := hR1.g g
        clear x0 x1 x2 x3
        replace hX := hX.g g
        replace gX := gX.trans g
        clear g
        have x0 : v3.cell? ⟨w.heap.size, 0, none⟩ = some (.int .i64 m) := hX.cell 0
        have x1 : v3.cell? ⟨w.heap.size, 1, none⟩ = some (.int .i64 B) := hX.cell 1
        have x2 : v3.cell? ⟨w.heap.size, 2, none⟩ = some (.int .i64 C) := hX.cell 2
        have x3 : v3.cell? ⟨w.heap.size, 3, none⟩ = some (.int .i64 J) := hX.cell 3
        go_wp2_with fail
        go_at_call 26
        refine (within_any m B C J k _).mono ?_
        rintro e v4 ⟨rfl, g⟩
        rw [HWI.out, HWE.out]
        replace hR1 := hR1.g g
        clear x0 x1 x2 x3
        replace hX := hX.g g
        replace gX := gX.trans g
        clear g
        have x0 : v4.cell? ⟨w.heap.size, 0, none⟩ = some (.int .i64 m) := hX.cell 0
        have x1 : v4.cell? ⟨w.heap.size, 1, none⟩ = some (.int .i64 B) := hX.cell 1
        have x2 : v4.cell? ⟨w.heap.size, 2, none⟩ = some (.int .i64 C) := hX.cell 2
        have x3 : v4.cell? ⟨w.heap.size, 3, none⟩ = some (.int .i64 J) := hX.cell 3
        obtain ⟨A, cap, rfl, hcap, hmax, hrd⟩ := hR1
        rw [vI_len, HLN.out] at hcap hrd
        rw [vI_len, HLN.out]
        have HR : Hid (∀ k, k < m → ∃ b o, A = some ⟨b, o, none⟩ ∧ v4.cell? ⟨b, o + k, none⟩ = some (.int .i64 (wAt B C k))) := Lib.hid (fun k hk => by
          obtain ⟨b, o, e, hc⟩ := hrd (by omega)
          exact ⟨b, o, e, by rw [← HA.out k hk]; exact at_vQ hc (by rw [HLN.out]; exact hk)⟩)
        clear hrd HLN HA
        go_wp2_with fail
        go_loopw [11, 12] (fun sv iv wr => ∃ i : Nat, i ≤ m ∧ iv = .int .i64 i ∧ sv = .int .i64 (sumW B C (List.range i)) ∧ G v4 wr) (fun _ iv _ => m - (intOf iv).toNat)
        case atStart => exact ⟨0, by omega, rfl, rfl, G.refl _⟩
        case round =>
          obtain ⟨i, him, rfl, rfl, hg⟩ := hrel
          by_cases hlt : i < m
          · obtain ⟨b, o, rfl, d0⟩ := HR.out i hlt
            have d0 := hg.cell (World.block_lt_of_cell? v4 _ d0) d0
            have hil : (i : Int) < m := by omega
            have HE := Lib.hid (sumW_succ B C i)
            have b1 := wAt_bound HOK.out i
            have b2 := sumW_bound HOK.out (List.range i)
            rw [List.length_range] at b2
            generalize wAt B C i = x at *
            generalize sumW B C (List.range i) = y at *
            clear x0 x1 x2 x3
            go_wp2_with fail
            go_roundw
            case rel => exact ⟨i + 1, by omega, by go_num, by rw [HE.out], hg⟩
            case measure => simp [intOf]; omega
          · obtain rfl : i = m := by omega
            have gXf := gX
            go_wp2_with fail
            go_at_call 16
            refine (works_any _).mono ?_
            rintro e v5 ⟨rfl, g5⟩
            go_wp2_with fail
            go_ret
            exact ⟨rfl, gX.trans (hg.trans g5)⟩
      · have p0 : decide (k < 0) = false := by simpa using hn
        have p1 : 68719476736 < k := by omega
        clear hs
        go_enter Try.func8, Try.ntmps8
        have hX := Blk.new w 23 #[.int .i64 m, .int .i64 B, .int .i64 C, .int .i64 J]
        have gX : G w (w.alloc (.cells #[.int .i64 m, .int .i64 B, .int .i64 C, .int .i64 J] 23)) := (by repeat (first | exact G.refl _ | refine G.alloc ?_ _ | refine G.drewN ?_ _ | refine G.drew ?_ | refine G.trans ?_ (by assumption)))
        go_wp2_with fail
        go_at_call 14
        refine (check_any m B C J _).mono ?_
        rintro e v1 ⟨rfl, g⟩
        rw [HC.out]
        replace hX := hX.g g
        replace gX := gX.trans g
        clear g
        have x0 : v1.cell? ⟨w.heap.size, 0, none⟩ = some (.int .i64 m) := hX.cell 0
        have x1 : v1.cell? ⟨w.heap.size, 1, none⟩ = some (.int .i64 B) := hX.cell 1
        have x2 : v1.cell? ⟨w.heap.size, 2, none⟩ = some (.int .i64 C) := hX.cell 2
        have x3 : v1.cell? ⟨w.heap.size, 3, none⟩ = some (.int .i64 J) := hX.cell 3
        go_wp2_with fail
        go_at_call 17
        refine (list_any m B C J _).mono ?_
        rintro e v2 ⟨v, rfl, own, g⟩
        rw [HC.out]
        have hR1 := Rd.of_own own
        clear own
        clear x0 x1 x2 x3
        replace hX := hX.g g
        replace gX := gX.trans g
        clear g
        have x0 : v2.cell? ⟨w.heap.size, 0, none⟩ = some (.int .i64 m) := hX.cell 0
        have x1 : v2.cell? ⟨w.heap.size, 1, none⟩ = some (.int .i64 B) := hX.cell 1
        have x2 : v2.cell? ⟨w.heap.size, 2, none⟩ = some (.int .i64 C) := hX.cell 2
        have x3 : v2.cell? ⟨w.heap.size, 3, none⟩ = some (.int .i64 J) := hX.cell 3
        go_wp2_with fail
        go_at_call 19
        refine (total_any m B C J _).mono ?_
        rintro e v3 ⟨rfl, g⟩
        rw [HC.out, HT.out]
        replace hR1 := hR1.g g
        clear x0 x1 x2 x3
        replace hX := hX.g g
        replace gX := gX.trans g
        clear g
        have x0 : v3.cell? ⟨w.heap.size, 0, none⟩ = some (.int .i64 m) := hX.cell 0
        have x1 : v3.cell? ⟨w.heap.size, 1, none⟩ = some (.int .i64 B) := hX.cell 1
        have x2 : v3.cell? ⟨w.heap.size, 2, none⟩ = some (.int .i64 C) := hX.cell 2
        have x3 : v3.cell? ⟨w.heap.size, 3, none⟩ = some (.int .i64 J) := hX.cell 3
        go_wp2_with fail
        go_at_call 26
        refine (within_any m B C J k _).mono ?_
        rintro e v4 ⟨rfl, g⟩
        rw [HWI.out, HWE.out]
        replace hR1 := hR1.g g
        clear x0 x1 x2 x3
        replace hX := hX.g g
        replace gX := gX.trans g
        clear g
        have x0 : v4.cell? ⟨w.heap.size, 0, none⟩ = some (.int .i64 m) := hX.cell 0
        have x1 : v4.cell? ⟨w.heap.size, 1, none⟩ = some (.int .i64 B) := hX.cell 1
        have x2 : v4.cell? ⟨w.heap.size, 2, none⟩ = some (.int .i64 C) := hX.cell 2
        have x3 : v4.cell? ⟨w.heap.size, 3, none⟩ = some (.int .i64 J) := hX.cell 3
        obtain ⟨A, cap, rfl, hcap, hmax, hrd⟩ := hR1
        rw [vI_len, HLN.out] at hcap hrd
        rw [vI_len, HLN.out]
        have HR : Hid (∀ k, k < m → ∃ b o, A = some ⟨b, o, none⟩ ∧ v4.cell? ⟨b, o + k, none⟩ = some (.int .i64 (wAt B C k))) := Lib.hid (fun k hk => by
          obtain ⟨b, o, e, hc⟩ := hrd (by omega)
          exact ⟨b, o, e, by rw [← HA.out k hk]; exact at_vQ hc (by rw [HLN.out]; exact hk)⟩)
        clear hrd HLN HA
        go_wp2_with fail
        go_loopw [11, 12] (fun sv iv wr => ∃ i : Nat, i ≤ m ∧ iv = .int .i64 i ∧ sv = .int .i64 (sumW B C (List.range i)) ∧ G v4 wr) (fun _ iv _ => m - (intOf iv).toNat)
        case atStart => exact ⟨0, by omega, rfl, rfl, G.refl _⟩
        case round =>
          obtain ⟨i, him, rfl, rfl, hg⟩ := hrel
          by_cases hlt : i < m
          · obtain ⟨b, o, rfl, d0⟩ := HR.out i hlt
            have d0 := hg.cell (World.block_lt_of_cell? v4 _ d0) d0
            have hil : (i : Int) < m := by omega
            have HE := Lib.hid (sumW_succ B C i)
            have b1 := wAt_bound HOK.out i
            have b2 := sumW_bound HOK.out (List.range i)
            rw [List.length_range] at b2
            generalize wAt B C i = x at *
            generalize sumW B C (List.range i) = y at *
            clear x0 x1 x2 x3
            go_wp2_with fail
            go_roundw
            case rel => exact ⟨i + 1, by omega, by go_num, by rw [HE.out], hg⟩
            case measure => simp [intOf]; omega
          · obtain rfl : i = m := by omega
            have gXf := gX
            go_wp2_with fail
            go_at_call 16
            refine (works_any _).mono ?_
            rintro e v5 ⟨rfl, g5⟩
            go_wp2_with fail
            go_ret
            exact ⟨rfl, gX.trans (hg.trans g5)⟩
  · have HC : Hid (chkE M B C J = 16) := Lib.hid (if_neg hok)
    have HL : Hid (waitsL M B C J = []) := Lib.hid (if_neg hok)
    clear hok
    go_enter Try.func8, Try.ntmps8
    have hX := Blk.new w 23 #[.int .i64 M, .int .i64 B, .int .i64 C, .int .i64 J]
    have gX : G w (w.alloc (.cells #[.int .i64 M, .int .i64 B, .int .i64 C, .int .i64 J] 23)) := (by repeat (first | exact G.refl _ | refine G.alloc ?_ _ | refine G.drewN ?_ _ | refine G.drew ?_ | refine G.trans ?_ (by assumption)))
    go_wp2_with fail
    go_at_call 14
    refine (check_any M B C J _).mono ?_
    rintro e v1 ⟨rfl, g⟩
    rw [HC.out]
    replace hX := hX.g g
    replace gX := gX.trans g
    clear g
    have x0 : v1.cell? ⟨w.heap.size, 0, none⟩ = some (.int .i64 M) := hX.cell 0
    have x1 : v1.cell? ⟨w.heap.size, 1, none⟩ = some (.int .i64 B) := hX.cell 1
    have x2 : v1.cell? ⟨w.heap.size, 2, none⟩ = some (.int .i64 C) := hX.cell 2
    have x3 : v1.cell? ⟨w.heap.size, 3, none⟩ = some (.int .i64 J) := hX.cell 3
    go_wp2_with fail
    go_at_call 16
    refine (works_any _).mono ?_
    rintro e v3 ⟨rfl, g⟩
    go_wp2_with fail
    go_ret
    exact ⟨rfl, gX.trans g⟩
set_option maxHeartbeats 2000000 in
theorem contract (H : Type) (enc : TypeId × Value → H) (W : World) (base : Nat) (args : Array Value) (ds gs : List (DataW H)) (before : List MemPlace)
    (hval : ∀ (j : Nat) t v, Try.f8.params[j]? = some t → args[j]? = some v → Value.okWide Try.prog W .any base t v)
    (hW : DataW.Whole enc Try.prog Try.f8.params.toList Rows.backoffSumsSpec.vars false W args.toList ds gs before) :
    Calls Try.prog 8 args W fun e W' => ∃ v, e = .returned v ∧ Rows.backoffSumsSpec.post enc Try.prog Try.f8 false true false false W args v W' := by
  have hW' := hW
  obtain ⟨p, q, hA0, hV, rfl, hfz, hnd⟩ := hW
  have hA : DataW.TrodAll enc Try.prog W 0 (fun _ => true) true Try.f8.params.toList args.toList ds p := hA0
  rw [Try.params8] at hA hval
  obtain ⟨v0, vs0, d0, ds0, p0, q0, hargs, rfl, rfl, h0, r0⟩ := trodAll_cons hA
  obtain ⟨v1, vs1, d1, ds1, p1, q1, rfl, rfl, rfl, h1, r1⟩ := trodAll_cons r0
  obtain ⟨rfl, rfl, rfl⟩ := trodAll_nil r1
  obtain rfl : args = #[v0, v1] := by cases args; simp_all
  obtain ⟨a0, b0, c0, e0, rfl⟩ := open_retry (hval 0 23 v0 rfl rfl) h0
  obtain ⟨a1, rfl, rfl, rfl, w1⟩ := open_int Try.underlying2 (hval 1 2 v1 rfl rfl) h1
  simp [Lit.wf, IntKind.min, IntKind.max, IntKind.bits, IntKind.signed] at w1
  refine (walk (w := W) a0 b0 c0 e0 a1 (by omega) (by omega)).mono fun e W' ⟨he, hg⟩ => ?_
  subst he
  exact ⟨_, rfl, law_post laidOut_ (by
    intro t ht
    rw [Try.params8] at ht
    simp at ht
    rcases ht with rfl | rfl <;> exact ⟨by kernel_rfl, by decide +kernel⟩) hW' rfl rfl (by kernel_rfl) Try.underlying4 hg⟩
set_option maxRecDepth 100000 in
theorem lifted (os : Os) (started : os.Started) (H : Type) (enc : TypeId × Value → H) :
    ReturnsInHanded {} Try.checked os 8 .any (Rows.backoffSumsSpec.pre6 enc Try.prog Try.f8 Rows.backoffSumsRow.domain false) (Rows.backoffSumsSpec.post enc Try.prog Try.f8 false true false false) := by
  refine returnsInHanded_of_change (C := Try.checked) own_ started (by kernel_rfl) Try.func8
    (ChangeSpec.witness6 (enc := enc) (C := Try.checked) false ⟨#[], #[.agg #[.int .i64 0, .int .i64 0, .int .i64 0, .int .i64 0], .int .i64 0], []⟩ 8 (by kernel_rfl) (by kernel_rfl) (by kernel_rfl) (by kernel_rfl)) ?_
  intro W base args ds gs before hval hW _ _
  exact contract H enc W base args ds gs before hval hW
theorem said : Rows.BackoffSumsSaid :=
  OpenClaim.holds_of_wide 8 Try.f8 rfl rfl rfl rfl rfl rfl rfl ⟨rfl, rfl, rfl, rfl, rfl⟩ rfl rfl rfl rfl rfl (by kernel_rfl) Try.func8 (by kernel_rfl)
    (of_decide_eq_true (by kernel_rfl)) (by unfold Func.isWrapper; first | (rw [if_pos (by decide +kernel)]; kernel_rfl) | (rw [if_neg (by decide +kernel)]; exact ⟨rfl, rfl⟩))
    (fun os started H enc _ => lifted os started H enc)
#print axioms said
end Go.Proofs.Ytabgddiecddbhaa.lawBackoffSums
