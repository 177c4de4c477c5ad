/-
  BackoffGrows: the first wait is Base; each other one is twice the one before, or Cap if that is smaller; all are from Base to Cap, and none is smaller than the one before.
-/
import Derived.Test.YtabgddiecddbhaaTieR
import Derived.Test.YtabgddiecddbhaaBkX
set_option linter.unusedVariables false
set_option linter.unusedSimpArgs false
namespace Go.Proofs.Ytabgddiecddbhaa.lawBackoffGrows
open Go.ChangeShapes Go.WideShapes Go.ChangeAt Go.RowKit

theorem step_ {B C : Int} {i : Nat} (h : 0 < i) : wAt B C i = min (wAt B C (i - 1) + wAt B C (i - 1)) C := by
  obtain ⟨j, rfl⟩ : ∃ j, i = j + 1 := ⟨i - 1, by omega⟩
  rfl
set_option maxRecDepth 4000 in
set_option maxHeartbeats 2000000 in
theorem walk {w : World} (M B C J : Int) :
    Calls Try.prog 6 #[.agg #[.int .i64 M, .int .i64 B, .int .i64 C, .int .i64 J]] w fun e w' => e = .returned (.bool true) ∧ G w w' := by
  by_cases hok : okR M B C J
  · obtain ⟨m, rfl⟩ : ∃ m : Nat, M = m := ⟨M.toNat, by unfold okR at hok; omega⟩
    have hm : m ≤ 20 := by unfold okR at hok; omega
    have HC : Hid (chkE m B C J = 0) := Lib.hid (if_pos hok)
    have HLN : Hid ((waitsL m B C J).length = m) := Lib.hid (by rw [waits_len_ok hok, Int.toNat_natCast])
    have HA : Hid (∀ k, k < m → at_ (waitsL m B C J) k = wAt B C k) := Lib.hid (fun k hk => (waits_at (by rw [HLN.out]; exact hk)).2.2)
    have HOK := Lib.hid hok
    clear hok
    go_enter Try.func6, Try.ntmps6
    have hX := Blk.new w 23 #[.int .i64 m, .int .i64 B, .int .i64 C, .int .i64 J]
    have gX : G w (w.alloc (.cells #[.int .i64 m, .int .i64 B, .int .i64 C, .int .i64 J] 23)) := (by repeat (first | exact G.refl _ | refine G.alloc ?_ _ | refine G.drewN ?_ _ | refine G.drew ?_ | refine G.trans ?_ (by assumption)))
    go_wp2_with fail
    refine (list_any m B C J _).mono ?_
    rintro e v1 ⟨v, rfl, own, g⟩
    rw [HC.out]
    have hR1 := Rd.of_own own
    clear own
    replace hX := hX.g g
    replace gX := gX.trans g
    clear g
    have x0 : v1.cell? ⟨w.heap.size, 0, none⟩ = some (.int .i64 m) := hX.cell 0
    have x1 : v1.cell? ⟨w.heap.size, 1, none⟩ = some (.int .i64 B) := hX.cell 1
    have x2 : v1.cell? ⟨w.heap.size, 2, none⟩ = some (.int .i64 C) := hX.cell 2
    have x3 : v1.cell? ⟨w.heap.size, 3, none⟩ = some (.int .i64 J) := hX.cell 3
    go_wp2_with fail
    refine (check_any m B C J _).mono ?_
    rintro e v2 ⟨rfl, g⟩
    rw [HC.out]
    replace hR1 := hR1.g g
    clear x0 x1 x2 x3
    replace hX := hX.g g
    replace gX := gX.trans g
    clear g
    have x0 : v2.cell? ⟨w.heap.size, 0, none⟩ = some (.int .i64 m) := hX.cell 0
    have x1 : v2.cell? ⟨w.heap.size, 1, none⟩ = some (.int .i64 B) := hX.cell 1
    have x2 : v2.cell? ⟨w.heap.size, 2, none⟩ = some (.int .i64 C) := hX.cell 2
    have x3 : v2.cell? ⟨w.heap.size, 3, none⟩ = some (.int .i64 J) := hX.cell 3
    obtain ⟨A, cap, rfl, hcap, hmax, hrd⟩ := hR1
    rw [vI_len, HLN.out] at hcap hrd
    rw [vI_len, HLN.out]
    have HR : Hid (∀ k, k < m → ∃ b o, A = some ⟨b, o, none⟩ ∧ v2.cell? ⟨b, o + k, none⟩ = some (.int .i64 (wAt B C k))) := Lib.hid (fun k hk => by
      obtain ⟨b, o, e, hc⟩ := hrd (by omega)
      exact ⟨b, o, e, by rw [← HA.out k hk]; exact at_vQ hc (by rw [HLN.out]; exact hk)⟩)
    clear hrd HLN HA
    go_wp2_with fail
    go_loopw [5] (fun iv wr => ∃ i : Nat, i ≤ m ∧ iv = .int .i64 i ∧ G v2 wr) (fun iv _ => m - (intOf iv).toNat)
    case atStart => exact ⟨0, by omega, rfl, G.refl _⟩
    case round =>
      obtain ⟨i, him, rfl, hg⟩ := hrel
      have hX2 := hX.g hg
      clear x0 x1 x2 x3
      have x0 : wr.cell? ⟨w.heap.size, 0, none⟩ = some (.int .i64 m) := hX2.cell 0
      have x1 : wr.cell? ⟨w.heap.size, 1, none⟩ = some (.int .i64 B) := hX2.cell 1
      have x2 : wr.cell? ⟨w.heap.size, 2, none⟩ = some (.int .i64 C) := hX2.cell 2
      have x3 : wr.cell? ⟨w.heap.size, 3, none⟩ = some (.int .i64 J) := hX2.cell 3
      by_cases hlt : i < m
      · obtain ⟨b, o, rfl, d0⟩ := HR.out i hlt
        have d0 := hg.cell (World.block_lt_of_cell? v2 _ d0) d0
        have HW : Hid (waitI m B C J (i + 1) = wAt B C i) := Lib.hid (by unfold waitI; rw [if_pos ⟨HOK.out, by omega, by omega⟩]; congr 1; omega)
        have HE : Hid (waitE m B C J (i + 1) = 0) := Lib.hid (by unfold waitE; rw [if_pos HOK.out, if_pos ⟨by omega, by omega⟩])
        have hil : (i : Int) < m := by omega
        obtain ⟨q0, q1, q2, q3⟩ := wAt_bound HOK.out i
        have hB1 : 1 ≤ B := by have := HOK.out; unfold okR at this; omega
        have t0 : decide (wAt B C i < B) = false := by simp; omega
        have t1 : decide (C < wAt B C i) = false := by simp; omega
        have HS : Hid (0 < i → ∃ y, wr.cell? ⟨b, o + (i - 1), none⟩ = some (.int .i64 y) ∧ wAt B C i = min (y + y) C ∧ 1 ≤ y ∧ y ≤ C) := Lib.hid (fun h => by
          obtain ⟨b', o', e', d1⟩ := HR.out (i - 1) (by omega)
          cases e'
          obtain ⟨r0, r1, r2, r3⟩ := wAt_bound HOK.out (i - 1)
          exact ⟨wAt B C (i - 1), hg.cell (World.block_lt_of_cell? v2 _ d1) d1, step_ h, by omega, r1⟩)
        have H0 : Hid (i = 0 → wAt B C i = B) := Lib.hid (fun h => by rw [h]; rfl)
        generalize wAt B C i = x at *
        go_wp2_with fail
        refine (wait_any _ _ _ _ _ _).mono ?_
        rintro e v3 ⟨rfl, g3⟩
        rw [HW.out, HE.out]
        have hX3 := hX2.g g3
        clear x0 x1 x2 x3
        have d0 := g3.cell (World.block_lt_of_cell? wr _ d0) d0
        have x1 : v3.cell? ⟨w.heap.size, 1, none⟩ = some (.int .i64 B) := hX3.cell 1
        have x2 : v3.cell? ⟨w.heap.size, 2, none⟩ = some (.int .i64 C) := hX3.cell 2
        by_cases hi0 : i = 0
        · have hb0 : ((i : Int) == 0) = true := by simpa using hi0
          have hb1 : decide (0 < (i : Int)) = false := by simp; omega
          have hb2 : decide (0 < i) = false := by simp; omega
          obtain rfl := H0.out hi0
          clear hi0
          go_wp2_with fail
          all_goals (
            go_roundw
            case rel => exact ⟨i + 1, by omega, by go_num, hg.trans g3⟩
            case measure => simp [intOf]; omega)
        · have hb0 : ((i : Int) == 0) = false := by simp; omega
          have hb1 : decide (0 < (i : Int)) = true := by simp; omega
          have hb2 : decide (0 < i) = true := by simp; omega
          obtain ⟨y, d1, hy, y0, y1⟩ := HS.out (by omega)
          have d1 := g3.cell (World.block_lt_of_cell? wr _ d1) d1
          have hi1 : (i : Int) - 1 = ((i - 1 : Nat) : Int) := by omega
          go_wp2_with fail
          all_goals (
            go_roundw
            case rel => exact ⟨i + 1, by omega, by go_num, hg.trans g3⟩
            case measure => simp [intOf]; omega)
      · obtain rfl : i = m := by omega
        have HE1 : Hid (waitE i B C J (i + 1) = 3) := Lib.hid (by unfold waitE; rw [if_pos HOK.out, if_neg (by omega)])
        have HE2 : Hid (waitE i B C J 0 = 3) := Lib.hid (by unfold waitE; rw [if_pos HOK.out, if_neg (by omega)])
        go_wp2_with fail
        refine (wait_any _ _ _ _ _ _).mono ?_
        rintro e v3 ⟨rfl, g3⟩
        rw [HE1.out]
        have hX3 := hX2.g g3
        clear x0 x1 x2 x3
        have x0 : v3.cell? ⟨w.heap.size, 0, none⟩ = some (.int .i64 i) := hX3.cell 0
        have x1 : v3.cell? ⟨w.heap.size, 1, none⟩ = some (.int .i64 B) := hX3.cell 1
        have x2 : v3.cell? ⟨w.heap.size, 2, none⟩ = some (.int .i64 C) := hX3.cell 2
        have x3 : v3.cell? ⟨w.heap.size, 3, none⟩ = some (.int .i64 J) := hX3.cell 3
        go_wp2_with fail
        refine (wait_any _ _ _ _ _ _).mono ?_
        rintro e v4 ⟨rfl, g4⟩
        rw [HE2.out]
        go_wp2_with fail
        refine (works_any _).mono ?_
        rintro e v5 ⟨rfl, g5⟩
        go_wp2_with fail
        go_ret
        exact ⟨rfl, gX.trans (hg.trans (g3.trans (g4.trans g5)))⟩
  · have HC : Hid (chkE M B C J = 16) := Lib.hid (if_neg hok)
    have HL : Hid (waitsL M B C J = []) := Lib.hid (if_neg hok)
    clear hok
    go_enter Try.func6, Try.ntmps6
    have hX := Blk.new w 23 #[.int .i64 M, .int .i64 B, .int .i64 C, .int .i64 J]
    have gX : G w (w.alloc (.cells #[.int .i64 M, .int .i64 B, .int .i64 C, .int .i64 J] 23)) := (by repeat (first | exact G.refl _ | refine G.alloc ?_ _ | refine G.drewN ?_ _ | refine G.drew ?_ | refine G.trans ?_ (by assumption)))
    go_wp2_with fail
    refine (list_any M B C J _).mono ?_
    rintro e v1 ⟨v, rfl, own, g⟩
    rw [HC.out]
    rw [HL.out] at own
    have hR1 := Rd.of_own own
    clear own
    replace hX := hX.g g
    replace gX := gX.trans g
    clear g
    have x0 : v1.cell? ⟨w.heap.size, 0, none⟩ = some (.int .i64 M) := hX.cell 0
    have x1 : v1.cell? ⟨w.heap.size, 1, none⟩ = some (.int .i64 B) := hX.cell 1
    have x2 : v1.cell? ⟨w.heap.size, 2, none⟩ = some (.int .i64 C) := hX.cell 2
    have x3 : v1.cell? ⟨w.heap.size, 3, none⟩ = some (.int .i64 J) := hX.cell 3
    go_wp2_with fail
    refine (check_any M B C J _).mono ?_
    rintro e v2 ⟨rfl, g⟩
    rw [HC.out]
    clear x0 x1 x2 x3
    replace hX := hX.g g
    replace gX := gX.trans g
    clear g
    have x0 : v2.cell? ⟨w.heap.size, 0, none⟩ = some (.int .i64 M) := hX.cell 0
    have x1 : v2.cell? ⟨w.heap.size, 1, none⟩ = some (.int .i64 B) := hX.cell 1
    have x2 : v2.cell? ⟨w.heap.size, 2, none⟩ = some (.int .i64 C) := hX.cell 2
    have x3 : v2.cell? ⟨w.heap.size, 3, none⟩ = some (.int .i64 J) := hX.cell 3
    obtain ⟨A, cap, rfl, hcap, hmax, hrd⟩ := hR1
    go_wp2_with fail
    refine (works_any _).mono ?_
    rintro e v3 ⟨rfl, g⟩
    go_wp2_with fail
    go_ret
    exact ⟨rfl, gX.trans g⟩
set_option maxHeartbeats 2000000 in
theorem contract (H : Type) (enc : TypeId × Value → H) (W : World) (base : Nat) (args : Array Value) (ds gs : List (DataW H)) (before : List MemPlace)
    (hval : ∀ (j : Nat) t v, Try.f6.params[j]? = some t → args[j]? = some v → Value.okWide Try.prog W .any base t v)
    (hW : DataW.Whole enc Try.prog Try.f6.params.toList Rows.backoffGrowsSpec.vars false W args.toList ds gs before) :
    Calls Try.prog 6 args W fun e W' => ∃ v, e = .returned v ∧ Rows.backoffGrowsSpec.post enc Try.prog Try.f6 false true false false W args v W' := by
  have hW' := hW
  obtain ⟨p, q, hA0, hV, rfl, hfz, hnd⟩ := hW
  have hA : DataW.TrodAll enc Try.prog W 0 (fun _ => true) true Try.f6.params.toList args.toList ds p := hA0
  rw [Try.params6] at hA hval
  obtain ⟨v0, vs0, d0, ds0, p0, q0, hargs, rfl, rfl, h0, r0⟩ := trodAll_cons hA
  obtain ⟨rfl, rfl, rfl⟩ := trodAll_nil r0
  obtain rfl : args = #[v0] := by cases args; simp_all
  obtain ⟨a0, b0, c0, e0, rfl⟩ := open_retry (hval 0 23 v0 rfl rfl) h0
  refine (walk (w := W) a0 b0 c0 e0).mono fun e W' ⟨he, hg⟩ => ?_
  subst he
  exact ⟨_, rfl, law_post laidOut_ (by
    intro t ht
    rw [Try.params6] at ht
    simp at ht
    have ht2 : t = 23 := by omega
    rcases ht2 with rfl <;> exact ⟨by kernel_rfl, by decide +kernel⟩) hW' rfl rfl (by kernel_rfl) Try.underlying4 hg⟩
set_option maxRecDepth 100000 in
theorem lifted (os : Os) (started : os.Started) (H : Type) (enc : TypeId × Value → H) :
    ReturnsInHanded {} Try.checked os 6 .any (Rows.backoffGrowsSpec.pre6 enc Try.prog Try.f6 Rows.backoffGrowsRow.domain false) (Rows.backoffGrowsSpec.post enc Try.prog Try.f6 false true false false) := by
  refine returnsInHanded_of_change (C := Try.checked) own_ started (by kernel_rfl) Try.func6
    (ChangeSpec.witness6 (enc := enc) (C := Try.checked) false ⟨#[], #[.agg #[.int .i64 0, .int .i64 0, .int .i64 0, .int .i64 0]], []⟩ 8 (by kernel_rfl) (by kernel_rfl) (by kernel_rfl) (by kernel_rfl)) ?_
  intro W base args ds gs before hval hW _ _
  exact contract H enc W base args ds gs before hval hW
theorem said : Rows.BackoffGrowsSaid :=
  OpenClaim.holds_of_wide 6 Try.f6 rfl rfl rfl rfl rfl rfl rfl ⟨rfl, rfl, rfl, rfl, rfl⟩ rfl rfl rfl rfl rfl (by kernel_rfl) Try.func6 (by kernel_rfl)
    (of_decide_eq_true (by kernel_rfl)) (by unfold Func.isWrapper; first | (rw [if_pos (by decide +kernel)]; kernel_rfl) | (rw [if_neg (by decide +kernel)]; exact ⟨rfl, rfl⟩))
    (fun os started H enc _ => lifted os started H enc)
#print axioms said
end Go.Proofs.Ytabgddiecddbhaa.lawBackoffGrows
