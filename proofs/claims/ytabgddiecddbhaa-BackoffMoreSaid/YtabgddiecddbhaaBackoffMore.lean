/-
  BackoffMore: with one attempt more the waits before are the same; with twice Base and Cap all waits are twice as long.
-/
import Derived.Test.YtabgddiecddbhaaTieR
import Derived.Test.YtabgddiecddbhaaBkX
set_option linter.unusedVariables false
set_option linter.unusedSimpArgs false
namespace Go.Proofs.Ytabgddiecddbhaa.lawBackoffMore
open Go.ChangeShapes Go.WideShapes Go.ChangeAt Go.RowKit

theorem twice_ {B C : Int} (k : Nat) : wAt (2 * B) (2 * C) k = 2 * wAt B C k := by
  induction k with
  | zero => rfl
  | succ k ih => simp only [wAt]; rw [ih]; omega
theorem take_ {m : Nat} {B C J : Int} (h : okR m B C J) (h2 : okR ((m : Int) + 1) B C J) : (waitsL ((m : Int) + 1) B C J).take m = waitsL m B C J := by
  unfold waitsL
  rw [if_pos h, if_pos h2, ← List.map_take, List.take_range]
  congr 2
  omega
theorem rd_take {w : World} {v : Value} {xs : List Value} (h : Rd w v xs) {k : Nat} (hk : k ≤ xs.length) : ∀ A n c, v = .slice A n c → Rd w (.slice A k c) (xs.take k) := by
  rintro A n c rfl
  obtain ⟨A', c', e, h1, h2, h3⟩ := h
  cases e
  have hl : (xs.take k).length = k := by rw [List.length_take]; omega
  refine ⟨A, c, by rw [hl], by rw [hl]; omega, h2, fun h0 => ?_⟩
  rw [hl] at h0
  obtain ⟨b, o, e, hc⟩ := h3 (by omega)
  refine ⟨b, o, e, fun j u hu => hc j u ?_⟩
  rw [List.getElem?_take] at hu
  split at hu
  · exact hu
  · cases hu
set_option maxRecDepth 20000 in
set_option maxHeartbeats 2000000 in
theorem walk {w : World} (M B C J : Int) :
    Calls Try.prog 11 #[.agg #[.int .i64 M, .int .i64 B, .int .i64 C, .int .i64 J]] w fun e w' => e = .returned (.bool true) ∧ G w w' := by
  by_cases hok : okR M B C J
  · obtain ⟨m, rfl⟩ : ∃ m : Nat, M = m := ⟨M.toNat, by unfold okR at hok; omega⟩
    have hm : m ≤ 20 := by unfold okR at hok; omega
    have HC : Hid (chkE m B C J = 0) := Lib.hid (if_pos hok)
    have HLN : Hid ((waitsL m B C J).length = m) := Lib.hid (by rw [waits_len_ok hok, Int.toNat_natCast])
    have HA : Hid (∀ k, k < m → at_ (waitsL m B C J) k = wAt B C k) := Lib.hid (fun k hk => (waits_at (by rw [HLN.out]; exact hk)).2.2)
    have HOK := Lib.hid hok
    clear hok
    by_cases hm0 : m = 0
    · subst hm0
      have HC : Hid (chkE 0 B C J = 0) := HC
      have HLN : Hid ((waitsL 0 B C J).length = 0) := HLN
      show Calls Try.prog 11 #[.agg #[.int .i64 0, .int .i64 B, .int .i64 C, .int .i64 J]] w _
      go_enter Try.func11, Try.ntmps11
      have hX := Blk.new w 23 #[.int .i64 0, .int .i64 B, .int .i64 C, .int .i64 J]
      have gX : G w (w.alloc (.cells #[.int .i64 0, .int .i64 B, .int .i64 C, .int .i64 J] 23)) := (by repeat (first | exact G.refl _ | refine G.alloc ?_ _ | refine G.drewN ?_ _ | refine G.drew ?_ | refine G.trans ?_ (by assumption)))
      go_wp2_with fail
      go_at_call 17
      refine (list_any 0 B C J _).mono ?_
      rintro e v1 ⟨v, rfl, own, g⟩
      rw [HC.out]
      have hR1 := Rd.of_own own
      clear own
      replace hX := hX.g g
      replace gX := gX.trans g
      clear g
      have x0 : v1.cell? ⟨w.heap.size, 0, none⟩ = some (.int .i64 0) := hX.cell 0
      have x1 : v1.cell? ⟨w.heap.size, 1, none⟩ = some (.int .i64 B) := hX.cell 1
      have x2 : v1.cell? ⟨w.heap.size, 2, none⟩ = some (.int .i64 C) := hX.cell 2
      have x3 : v1.cell? ⟨w.heap.size, 3, none⟩ = some (.int .i64 J) := hX.cell 3
      obtain ⟨A, cap, rfl, hcap, hmax, hrd⟩ := hR1
      rw [vI_len, HLN.out]
      clear hcap hrd
      go_wp2_with fail
      go_at_call 16
      refine (works_any _).mono ?_
      rintro e v3 ⟨rfl, g⟩
      go_wp2_with fail
      go_ret
      exact ⟨rfl, gX.trans g⟩
    · have hmz : ((m : Int) == 0) = false := by simp; omega
      have hmz2 : (m == 0) = false := by simp; omega
      go_enter Try.func11, Try.ntmps11
      have hX := Blk.new w 23 #[.int .i64 m, .int .i64 B, .int .i64 C, .int .i64 J]
      have gX : G w (w.alloc (.cells #[.int .i64 m, .int .i64 B, .int .i64 C, .int .i64 J] 23)) := (by repeat (first | exact G.refl _ | refine G.alloc ?_ _ | refine G.drewN ?_ _ | refine G.drew ?_ | refine G.trans ?_ (by assumption)))
      go_wp2_with fail
      go_at_call 17
      refine (list_any m B C J _).mono ?_
      rintro e v1 ⟨v, rfl, own, g⟩
      rw [HC.out]
      have hR1 := Rd.of_own own
      clear own
      replace hX := hX.g g
      replace gX := gX.trans g
      clear g
      have x0 : v1.cell? ⟨w.heap.size, 0, none⟩ = some (.int .i64 m) := hX.cell 0
      have x1 : v1.cell? ⟨w.heap.size, 1, none⟩ = some (.int .i64 B) := hX.cell 1
      have x2 : v1.cell? ⟨w.heap.size, 2, none⟩ = some (.int .i64 C) := hX.cell 2
      have x3 : v1.cell? ⟨w.heap.size, 3, none⟩ = some (.int .i64 J) := hX.cell 3
      have hR0 := hR1
      obtain ⟨A, cap, rfl, hcap, hmax, hrd⟩ := hR1
      rw [vI_len, HLN.out] at hcap
      rw [vI_len, HLN.out] at hR0 ⊢
      have HRL : Hid (∀ k, k < m → ∃ b o, A = some ⟨b, o, none⟩ ∧ v1.cell? ⟨b, o + k, none⟩ = some (.int .i64 (wAt B C k))) := Lib.hid (fun k hk => by
        obtain ⟨b, o, e, hc⟩ := hrd (by rw [vI_len, HLN.out]; omega)
        exact ⟨b, o, e, by rw [← HA.out k hk]; exact at_vQ hc (by rw [HLN.out]; exact hk)⟩)
      clear hrd
      by_cases hmore : m < 20
      · have hok2 : okR ((m : Int) + 1) B C J := by have := HOK.out; unfold okR at this ⊢; omega
        have HC2 : Hid (chkE ((m : Int) + 1) B C J = 0) := Lib.hid (if_pos hok2)
        have HL2 : Hid ((waitsL ((m : Int) + 1) B C J).length = m + 1) := Lib.hid (by rw [waits_len_ok hok2]; omega)
        have HT2 : Hid ((waitsL ((m : Int) + 1) B C J).take m = waitsL m B C J) := Lib.hid (take_ HOK.out hok2)
        clear hok2
        go_wp2_with fail
        go_at_call 14
        refine (check_any _ _ _ _ _).mono ?_
        rintro e v2 ⟨rfl, g⟩
        rw [HC2.out]
        have hY := (Blk.new v1 23 #[.int .i64 ((m : Int) + 1), .int .i64 B, .int .i64 C, .int .i64 J]).g g
        have y0 : v2.cell? ⟨v1.heap.size, 0, none⟩ = some (.int .i64 ((m : Int) + 1)) := hY.cell 0
        have y1 : v2.cell? ⟨v1.heap.size, 1, none⟩ = some (.int .i64 B) := hY.cell 1
        have y2 : v2.cell? ⟨v1.heap.size, 2, none⟩ = some (.int .i64 C) := hY.cell 2
        have y3 : v2.cell? ⟨v1.heap.size, 3, none⟩ = some (.int .i64 J) := hY.cell 3
        have g12 : G v1 v2 := ((G.refl v1).alloc _).trans g
        clear x0 x1 x2 x3 g
        go_wp2_with fail
        go_at_call 17
        refine (list_any _ _ _ _ _).mono ?_
        rintro e v3 ⟨v', rfl, own, g⟩
        rw [HC2.out]
        have hR2 := Rd.of_own own
        have g13 := g12.trans g
        clear own g hY y0 y1 y2 y3 g12
        have hRt := rd_take hR2 (show m ≤ _ by rw [vI_len, HL2.out]; omega)
        obtain ⟨A2, cap2, rfl, hcap2, hmax2, hrd2⟩ := hR2
        rw [vI_len, HL2.out] at hcap2 hrd2 ⊢
        obtain ⟨b2, o2, rfl, -⟩ := hrd2 (by omega)
        clear hrd2
        have hRt2 := hRt _ _ _ rfl
        rw [show (vI .i64 (waitsL ((m : Int) + 1) B C J)).take m = vI .i64 (waitsL m B C J) by rw [← HT2.out]; simp [vI, List.map_take]] at hRt2
        clear hRt
        have hmc : m ≤ cap2 := by omega
        go_wp2_with fail
        go_at_call 21
        refine (same_yes (waitsL m B C J) (by rw [HLN.out]; omega) _ _ _ hRt2 (hR0.g g13)).mono ?_
        rintro e v4 ⟨rfl, g⟩
        have g14 := g13.trans g
        clear g g13 hRt2
        replace hX := hX.g g14
        replace gX := gX.trans g14
        have hR4 := hR0.g g14
        have HRL4 : Hid (∀ k, k < m → ∃ b o, A = some ⟨b, o, none⟩ ∧ v4.cell? ⟨b, o + k, none⟩ = some (.int .i64 (wAt B C k))) := Lib.hid (fun k hk => by
          obtain ⟨b, o, e, hc⟩ := HRL.out k hk
          exact ⟨b, o, e, g14.cell (World.block_lt_of_cell? v1 _ hc) hc⟩)
        have x0 : v4.cell? ⟨w.heap.size, 0, none⟩ = some (.int .i64 m) := hX.cell 0
        have x1 : v4.cell? ⟨w.heap.size, 1, none⟩ = some (.int .i64 B) := hX.cell 1
        have x2 : v4.cell? ⟨w.heap.size, 2, none⟩ = some (.int .i64 C) := hX.cell 2
        have x3 : v4.cell? ⟨w.heap.size, 3, none⟩ = some (.int .i64 J) := hX.cell 3
        by_cases hhalf : C ≤ 34359738368
        · have hok3 : okR m (2 * B) (2 * C) J := by have := HOK.out; unfold okR at this ⊢; omega
          have HC3 : Hid (chkE m (2 * B) (2 * C) J = 0) := Lib.hid (if_pos hok3)
          have HL3 : Hid ((waitsL m (2 * B) (2 * C) J).length = m) := Lib.hid (by rw [waits_len_ok hok3, Int.toNat_natCast])
          have HA3 : Hid (∀ k, k < m → at_ (waitsL m (2 * B) (2 * C) J) k = 2 * wAt B C k) := Lib.hid (fun k hk => by rw [(waits_at (by rw [HL3.out]; exact hk)).2.2, twice_])
          have hBB : 1 ≤ B ∧ B ≤ C := by have := HOK.out; unfold okR at this; omega
          obtain ⟨hB1, hB2⟩ := hBB
          clear hok3
          have z1 : (v4.alloc (.cells #[.int .i64 m, .int .i64 B, .int .i64 C, .int .i64 J] 23)).cell? ⟨w.heap.size, 1, none⟩ = some (.int .i64 B) := (hX.alloc _).cell 1
          have z2 : (v4.alloc (.cells #[.int .i64 m, .int .i64 (2 * B), .int .i64 C, .int .i64 J] 23)).cell? ⟨w.heap.size, 2, none⟩ = some (.int .i64 C) := (hX.alloc _).cell 2
          go_wp2_with fail
          go_at_call 17
          refine (list_any _ _ _ _ _).mono ?_
          rintro e v6 ⟨v', rfl, own, g⟩
          rw [HC3.out]
          have hR2 := Rd.of_own own
          have g46 : G v4 v6 := ((G.refl v4).alloc _).trans g
          clear own g
          obtain ⟨A3, cap3, rfl, hcap3, hmax3, hrd3⟩ := hR2
          rw [vI_len, HL3.out] at hcap3 hrd3 ⊢
          have HR6 : Hid (∀ k, k < m → ∃ b o b2 o2, A = some ⟨b, o, none⟩ ∧ A3 = some ⟨b2, o2, none⟩ ∧ v6.cell? ⟨b, o + k, none⟩ = some (.int .i64 (wAt B C k)) ∧ v6.cell? ⟨b2, o2 + k, none⟩ = some (.int .i64 (2 * wAt B C k))) := Lib.hid (fun k hk => by
            obtain ⟨b, o, e, hc⟩ := HRL4.out k hk
            obtain ⟨b2, o2, e2, hc2⟩ := hrd3 (by omega)
            exact ⟨b, o, b2, o2, e, e2, g46.cell (World.block_lt_of_cell? v4 _ hc) hc, by rw [← HA3.out k hk]; exact at_vQ hc2 (by rw [HL3.out]; exact hk)⟩)
          clear hrd3 x0 x1 x2 x3
          go_wp2_with fail
          go_loopw [11] (fun iv wr => ∃ i : Nat, i ≤ m ∧ iv = .int .i64 i ∧ G v6 wr) (fun iv _ => m - (intOf iv).toNat)
          case atStart => exact ⟨0, by omega, rfl, G.refl _⟩
          case round =>
            obtain ⟨i, him, rfl, hg⟩ := hrel
            by_cases hlt : i < m
            · obtain ⟨b, o, b2, o2, rfl, rfl, d0, d1⟩ := HR6.out i hlt
              have d0 := hg.cell (World.block_lt_of_cell? v6 _ d0) d0
              have d1 := hg.cell (World.block_lt_of_cell? v6 _ d1) d1
              have hil : (i : Int) < m := by omega
              have b1 := wAt_bound HOK.out i
              generalize wAt B C i = x at *
              go_wp2_with fail
              go_quiet (fail)
              go_wp2_with fail
              go_roundw
              case rel => exact ⟨i + 1, by omega, by go_num, hg.drewN _⟩
              case measure => simp [intOf]; omega
            · obtain rfl : i = m := by omega
              go_wp2_with fail
              go_at_call 16
              refine (works_any _).mono ?_
              rintro e v9 ⟨rfl, g9⟩
              go_wp2_with fail
              go_ret
              exact ⟨rfl, gX.trans (g46.trans (hg.trans g9))⟩
        · have hh2 : decide (C ≤ 34359738368) = false := by simpa using hhalf
          go_wp2_with fail
          go_at_call 16
          refine (works_any _).mono ?_
          rintro e v9 ⟨rfl, g⟩
          go_wp2_with fail
          go_ret
          exact ⟨rfl, gX.trans g⟩
      · have HC2 : Hid (chkE ((m : Int) + 1) B C J = 16) := Lib.hid (if_neg (by unfold okR; omega))
        go_wp2_with fail
        go_at_call 14
        refine (check_any _ _ _ _ _).mono ?_
        rintro e v4 ⟨rfl, g⟩
        rw [HC2.out]
        have g14 : G v1 v4 := ((G.refl v1).alloc _).trans g
        clear g x0 x1 x2 x3
        replace hX := hX.g g14
        replace gX := gX.trans g14
        have hR4 := hR0.g g14
        have HRL4 : Hid (∀ k, k < m → ∃ b o, A = some ⟨b, o, none⟩ ∧ v4.cell? ⟨b, o + k, none⟩ = some (.int .i64 (wAt B C k))) := Lib.hid (fun k hk => by
          obtain ⟨b, o, e, hc⟩ := HRL.out k hk
          exact ⟨b, o, e, g14.cell (World.block_lt_of_cell? v1 _ hc) hc⟩)
        have x0 : v4.cell? ⟨w.heap.size, 0, none⟩ = some (.int .i64 m) := hX.cell 0
        have x1 : v4.cell? ⟨w.heap.size, 1, none⟩ = some (.int .i64 B) := hX.cell 1
        have x2 : v4.cell? ⟨w.heap.size, 2, none⟩ = some (.int .i64 C) := hX.cell 2
        have x3 : v4.cell? ⟨w.heap.size, 3, none⟩ = some (.int .i64 J) := hX.cell 3
        by_cases hhalf : C ≤ 34359738368
        · have hok3 : okR m (2 * B) (2 * C) J := by have := HOK.out; unfold okR at this ⊢; omega
          have HC3 : Hid (chkE m (2 * B) (2 * C) J = 0) := Lib.hid (if_pos hok3)
          have HL3 : Hid ((waitsL m (2 * B) (2 * C) J).length = m) := Lib.hid (by rw [waits_len_ok hok3, Int.toNat_natCast])
          have HA3 : Hid (∀ k, k < m → at_ (waitsL m (2 * B) (2 * C) J) k = 2 * wAt B C k) := Lib.hid (fun k hk => by rw [(waits_at (by rw [HL3.out]; exact hk)).2.2, twice_])
          have hBB : 1 ≤ B ∧ B ≤ C := by have := HOK.out; unfold okR at this; omega
          obtain ⟨hB1, hB2⟩ := hBB
          clear hok3
          have z1 : (v4.alloc (.cells #[.int .i64 m, .int .i64 B, .int .i64 C, .int .i64 J] 23)).cell? ⟨w.heap.size, 1, none⟩ = some (.int .i64 B) := (hX.alloc _).cell 1
          have z2 : (v4.alloc (.cells #[.int .i64 m, .int .i64 (2 * B), .int .i64 C, .int .i64 J] 23)).cell? ⟨w.heap.size, 2, none⟩ = some (.int .i64 C) := (hX.alloc _).cell 2
          go_wp2_with fail
          go_at_call 17
          refine (list_any _ _ _ _ _).mono ?_
          rintro e v6 ⟨v', rfl, own, g⟩
          rw [HC3.out]
          have hR2 := Rd.of_own own
          have g46 : G v4 v6 := ((G.refl v4).alloc _).trans g
          clear own g
          obtain ⟨A3, cap3, rfl, hcap3, hmax3, hrd3⟩ := hR2
          rw [vI_len, HL3.out] at hcap3 hrd3 ⊢
          have HR6 : Hid (∀ k, k < m → ∃ b o b2 o2, A = some ⟨b, o, none⟩ ∧ A3 = some ⟨b2, o2, none⟩ ∧ v6.cell? ⟨b, o + k, none⟩ = some (.int .i64 (wAt B C k)) ∧ v6.cell? ⟨b2, o2 + k, none⟩ = some (.int .i64 (2 * wAt B C k))) := Lib.hid (fun k hk => by
            obtain ⟨b, o, e, hc⟩ := HRL4.out k hk
            obtain ⟨b2, o2, e2, hc2⟩ := hrd3 (by omega)
            exact ⟨b, o, b2, o2, e, e2, g46.cell (World.block_lt_of_cell? v4 _ hc) hc, by rw [← HA3.out k hk]; exact at_vQ hc2 (by rw [HL3.out]; exact hk)⟩)
          clear hrd3 x0 x1 x2 x3
          go_wp2_with fail
          go_loopw [11] (fun iv wr => ∃ i : Nat, i ≤ m ∧ iv = .int .i64 i ∧ G v6 wr) (fun iv _ => m - (intOf iv).toNat)
          case atStart => exact ⟨0, by omega, rfl, G.refl _⟩
          case round =>
            obtain ⟨i, him, rfl, hg⟩ := hrel
            by_cases hlt : i < m
            · obtain ⟨b, o, b2, o2, rfl, rfl, d0, d1⟩ := HR6.out i hlt
              have d0 := hg.cell (World.block_lt_of_cell? v6 _ d0) d0
              have d1 := hg.cell (World.block_lt_of_cell? v6 _ d1) d1
              have hil : (i : Int) < m := by omega
              have b1 := wAt_bound HOK.out i
              generalize wAt B C i = x at *
              go_wp2_with fail
              go_quiet (fail)
              go_wp2_with fail
              go_roundw
              case rel => exact ⟨i + 1, by omega, by go_num, hg.drewN _⟩
              case measure => simp [intOf]; omega
            · obtain rfl : i = m := by omega
              go_wp2_with fail
              go_at_call 16
              refine (works_any _).mono ?_
              rintro e v9 ⟨rfl, g9⟩
              go_wp2_with fail
              go_ret
              exact ⟨rfl, gX.trans (g46.trans (hg.trans g9))⟩
        · have hh2 : decide (C ≤ 34359738368) = false := by simpa using hhalf
          go_wp2_with fail
          go_at_call 16
          refine (works_any _).mono ?_
          rintro e v9 ⟨rfl, g⟩
          go_wp2_with fail
          go_ret
          exact ⟨rfl, gX.trans g⟩
  · have HC : Hid (chkE M B C J = 16) := Lib.hid (if_neg hok)
    have HL : Hid (waitsL M B C J = []) := Lib.hid (if_neg hok)
    clear hok
    go_enter Try.func11, Try.ntmps11
    have hX := Blk.new w 23 #[.int .i64 M, .int .i64 B, .int .i64 C, .int .i64 J]
    have gX : G w (w.alloc (.cells #[.int .i64 M, .int .i64 B, .int .i64 C, .int .i64 J] 23)) := (by repeat (first | exact G.refl _ | refine G.alloc ?_ _ | refine G.drewN ?_ _ | refine G.drew ?_ | refine G.trans ?_ (by assumption)))
    go_wp2_with fail
    go_at_call 17
    refine (list_any M B C J _).mono ?_
    rintro e v1 ⟨v, rfl, own, g⟩
    rw [HC.out]
    rw [HL.out] at own
    have hR1 := Rd.of_own own
    clear own
    replace hX := hX.g g
    replace gX := gX.trans g
    clear g
    have x0 : v1.cell? ⟨w.heap.size, 0, none⟩ = some (.int .i64 M) := hX.cell 0
    have x1 : v1.cell? ⟨w.heap.size, 1, none⟩ = some (.int .i64 B) := hX.cell 1
    have x2 : v1.cell? ⟨w.heap.size, 2, none⟩ = some (.int .i64 C) := hX.cell 2
    have x3 : v1.cell? ⟨w.heap.size, 3, none⟩ = some (.int .i64 J) := hX.cell 3
    obtain ⟨A, cap, rfl, hcap, hmax, hrd⟩ := hR1
    go_wp2_with fail
    go_at_call 16
    refine (works_any _).mono ?_
    rintro e v3 ⟨rfl, g⟩
    go_wp2_with fail
    go_ret
    exact ⟨rfl, gX.trans g⟩
set_option maxHeartbeats 2000000 in
theorem contract (H : Type) (enc : TypeId × Value → H) (W : World) (base : Nat) (args : Array Value) (ds gs : List (DataW H)) (before : List MemPlace)
    (hval : ∀ (j : Nat) t v, Try.f11.params[j]? = some t → args[j]? = some v → Value.okWide Try.prog W .any base t v)
    (hW : DataW.Whole enc Try.prog Try.f11.params.toList Rows.backoffMoreSpec.vars false W args.toList ds gs before) :
    Calls Try.prog 11 args W fun e W' => ∃ v, e = .returned v ∧ Rows.backoffMoreSpec.post enc Try.prog Try.f11 false true false false W args v W' := by
  have hW' := hW
  obtain ⟨p, q, hA0, hV, rfl, hfz, hnd⟩ := hW
  have hA : DataW.TrodAll enc Try.prog W 0 (fun _ => true) true Try.f11.params.toList args.toList ds p := hA0
  rw [Try.params11] at hA hval
  obtain ⟨v0, vs0, d0, ds0, p0, q0, hargs, rfl, rfl, h0, r0⟩ := trodAll_cons hA
  obtain ⟨rfl, rfl, rfl⟩ := trodAll_nil r0
  obtain rfl : args = #[v0] := by cases args; simp_all
  obtain ⟨a0, b0, c0, e0, rfl⟩ := open_retry (hval 0 23 v0 rfl rfl) h0
  refine (walk (w := W) a0 b0 c0 e0).mono fun e W' ⟨he, hg⟩ => ?_
  subst he
  exact ⟨_, rfl, law_post laidOut_ (by
    intro t ht
    rw [Try.params11] at ht
    simp at ht
    rcases ht with rfl <;> exact ⟨by kernel_rfl, by decide +kernel⟩) hW' rfl rfl (by kernel_rfl) Try.underlying4 hg⟩
set_option maxRecDepth 100000 in
theorem lifted (os : Os) (started : os.Started) (H : Type) (enc : TypeId × Value → H) :
    ReturnsInHanded {} Try.checked os 11 .any (Rows.backoffMoreSpec.pre6 enc Try.prog Try.f11 Rows.backoffMoreRow.domain false) (Rows.backoffMoreSpec.post enc Try.prog Try.f11 false true false false) := by
  refine returnsInHanded_of_change (C := Try.checked) own_ started (by kernel_rfl) Try.func11
    (ChangeSpec.witness6 (enc := enc) (C := Try.checked) false ⟨#[], #[.agg #[.int .i64 0, .int .i64 0, .int .i64 0, .int .i64 0]], []⟩ 8 (by kernel_rfl) (by kernel_rfl) (by kernel_rfl) (by kernel_rfl)) ?_
  intro W base args ds gs before hval hW _ _
  exact contract H enc W base args ds gs before hval hW
theorem said : Rows.BackoffMoreSaid :=
  OpenClaim.holds_of_wide 11 Try.f11 rfl rfl rfl rfl rfl rfl rfl ⟨rfl, rfl, rfl, rfl, rfl⟩ rfl rfl rfl rfl rfl (by kernel_rfl) Try.func11 (by kernel_rfl)
    (of_decide_eq_true (by kernel_rfl)) (by unfold Func.isWrapper; first | (rw [if_pos (by decide +kernel)]; kernel_rfl) | (rw [if_neg (by decide +kernel)]; exact ⟨rfl, rfl⟩))
    (fun os started H enc _ => lifted os started H enc)
#print axioms said
end Go.Proofs.Ytabgddiecddbhaa.lawBackoffMore
