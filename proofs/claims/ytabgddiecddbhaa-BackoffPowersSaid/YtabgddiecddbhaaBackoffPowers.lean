/-
  BackoffPowers: as long as the waits are below Cap, the wait after the attempt k is Base times the power k - 1 of 2.
-/
import Derived.Test.YtabgddiecddbhaaTieR
import Derived.Test.YtabgddiecddbhaaBkX
import Derived.Deep.RegionHeld3
set_option linter.unusedVariables false
set_option linter.unusedSimpArgs false
namespace Go.Proofs.Ytabgddiecddbhaa.lawBackoffPowers
open Go.ChangeShapes Go.WideShapes Go.ChangeAt Go.RowKit

theorem powx_ {m : Nat} {B C J : Int} (hok : okR m B C J) (p : Nat) : wAt B C p = min (B * 2 ^ p) C := by
  have hC : 0 ≤ C ∧ B ≤ C ∧ 0 ≤ B := by unfold okR at hok; omega
  induction p with
  | zero => simp only [wAt, Int.pow_zero, Int.mul_one]; omega
  | succ p ih =>
    have h0 : 0 ≤ B * 2 ^ p := Int.mul_nonneg hC.2.2 (Int.le_of_lt (Int.pow_pos (by decide)))
    have e : B * 2 ^ (p + 1) = B * 2 ^ p + B * 2 ^ p := by rw [Int.pow_succ, ← Int.mul_assoc]; omega
    simp only [wAt]
    rw [ih, e]
    generalize B * 2 ^ p = z at *
    omega
theorem pow_ {m p : Nat} {B C J : Int} (hok : okR m B C J) (hp : p < m) : wrap64 (2 ^ (1 + p - 1)) = 2 ^ p ∧ 1 ≤ (2 : Int) ^ p ∧ (2 : Int) ^ p ≤ 524288 := by
  have h1 : p ≤ 19 := by unfold okR at hok; omega
  have key : ∀ q : Nat, q < 20 → (2 : Int) ^ q ≤ 524288 ∧ 1 ≤ (2 : Int) ^ q := by decide
  obtain ⟨h2, h3⟩ := key p (by omega)
  refine ⟨?_, h3, h2⟩
  rw [show 1 + p - 1 = p by omega]
  generalize (2 : Int) ^ p = z at *
  unfold wrap64; omega
set_option maxRecDepth 20000 in
set_option maxHeartbeats 2000000 in
theorem walk {w : World} (M B C J : Int) (k : Int) (k0 : 0 ≤ k) (k1 : k ≤ 255) :
    Calls Try.prog 7 #[.agg #[.int .i64 M, .int .i64 B, .int .i64 C, .int .i64 J], .int .u8 k] w fun e w' => e = .returned (.bool true) ∧ G w w' := by
  by_cases hok : okR M B C J
  · obtain ⟨m, rfl⟩ : ∃ m : Nat, M = m := ⟨M.toNat, by unfold okR at hok; omega⟩
    have hm : m ≤ 20 := by unfold okR at hok; omega
    have HC : Hid (chkE m B C J = 0) := Lib.hid (if_pos hok)
    have HLN : Hid ((waitsL m B C J).length = m) := Lib.hid (by rw [waits_len_ok hok, Int.toNat_natCast])
    have HA : Hid (∀ k, k < m → at_ (waitsL m B C J) k = wAt B C k) := Lib.hid (fun k hk => (waits_at (by rw [HLN.out]; exact hk)).2.2)
    have HOK := Lib.hid hok
    clear hok
    by_cases hm0 : m = 0
    · subst hm0
      have HC : Hid (chkE 0 B C J = 0) := HC
      show Calls Try.prog 7 #[.agg #[.int .i64 0, .int .i64 B, .int .i64 C, .int .i64 J], .int .u8 k] w _
      go_enter Try.func7, Try.ntmps7
      have hX := Blk.new w 23 #[.int .i64 0, .int .i64 B, .int .i64 C, .int .i64 J]
      have gX : G w (w.alloc (.cells #[.int .i64 0, .int .i64 B, .int .i64 C, .int .i64 J] 23)) := (by repeat (first | exact G.refl _ | refine G.alloc ?_ _ | refine G.drewN ?_ _ | refine G.drew ?_ | refine G.trans ?_ (by assumption)))
      go_wp2_with fail
      go_at_call 14
      refine (check_any 0 B C J _).mono ?_
      rintro e v1 ⟨rfl, g⟩
      rw [HC.out]
      replace hX := hX.g g
      replace gX := gX.trans g
      clear g
      have x0 : v1.cell? ⟨w.heap.size, 0, none⟩ = some (.int .i64 0) := hX.cell 0
      have x1 : v1.cell? ⟨w.heap.size, 1, none⟩ = some (.int .i64 B) := hX.cell 1
      have x2 : v1.cell? ⟨w.heap.size, 2, none⟩ = some (.int .i64 C) := hX.cell 2
      have x3 : v1.cell? ⟨w.heap.size, 3, none⟩ = some (.int .i64 J) := hX.cell 3
      go_wp2_with fail
      go_at_call 16
      refine (works_any _).mono ?_
      rintro e v3 ⟨rfl, g⟩
      go_wp2_with fail
      go_ret
      exact ⟨rfl, gX.trans g⟩
    · have hmz : ((m : Int) == 0) = false := by simp; omega
      have hr0 : 0 ≤ k % (m : Int) := Int.emod_nonneg _ (by omega)
      have hr1 : k % (m : Int) < m := Int.emod_lt_of_pos _ (by omega)
      obtain ⟨p, hp⟩ : ∃ p : Nat, k % (m : Int) = p := ⟨(k % (m : Int)).toNat, by omega⟩
      have HW : Hid (waitI m B C J (1 + (p : Int)) = wAt B C p) := Lib.hid (by unfold waitI; rw [if_pos ⟨HOK.out, by omega, by omega⟩]; congr 1; omega)
      have HE : Hid (waitE m B C J (1 + (p : Int)) = 0) := Lib.hid (by unfold waitE; rw [if_pos HOK.out, if_pos ⟨by omega, by omega⟩])
      have hpm : p < m := by omega
      go_enter Try.func7, Try.ntmps7
      have hX := Blk.new w 23 #[.int .i64 m, .int .i64 B, .int .i64 C, .int .i64 J]
      have gX : G w (w.alloc (.cells #[.int .i64 m, .int .i64 B, .int .i64 C, .int .i64 J] 23)) := (by repeat (first | exact G.refl _ | refine G.alloc ?_ _ | refine G.drewN ?_ _ | refine G.drew ?_ | refine G.trans ?_ (by assumption)))
      go_wp2_with fail
      go_at_call 14
      refine (check_any m B C J _).mono ?_
      rintro e v1 ⟨rfl, g⟩
      rw [HC.out]
      replace hX := hX.g g
      replace gX := gX.trans g
      clear g
      have x0 : v1.cell? ⟨w.heap.size, 0, none⟩ = some (.int .i64 m) := hX.cell 0
      have x1 : v1.cell? ⟨w.heap.size, 1, none⟩ = some (.int .i64 B) := hX.cell 1
      have x2 : v1.cell? ⟨w.heap.size, 2, none⟩ = some (.int .i64 C) := hX.cell 2
      have x3 : v1.cell? ⟨w.heap.size, 3, none⟩ = some (.int .i64 J) := hX.cell 3
      go_wp2_with fail
      go_at_call 12
      refine (wait_any _ _ _ _ _ _).mono ?_
      rintro e v2 ⟨rfl, g⟩
      rw [HW.out, HE.out]
      replace hX := hX.g g
      replace gX := gX.trans g
      clear x0 x1 x2 x3 g
      have x1 : v2.cell? ⟨w.heap.size, 1, none⟩ = some (.int .i64 B) := hX.cell 1
      have x2 : v2.cell? ⟨w.heap.size, 2, none⟩ = some (.int .i64 C) := hX.cell 2
      have HPP := Lib.hid (pow_ HOK.out hpm)
      have HPX := Lib.hid (powx_ HOK.out p)
      generalize wAt B C p = x at *
      go_wp2_with fail
      obtain ⟨hw1, hp1, hp2⟩ := HPP.out
      rw [hw1]
      clear hw1 HPP
      have HQ : Hid (B ≤ C / 2 ^ p ↔ B * 2 ^ p ≤ C) := Lib.hid (Int.le_ediv_iff_mul_le (by omega))
      generalize (2 : Int) ^ p = P at *
      have hB : 1 ≤ B ∧ B ≤ C ∧ C ≤ 68719476736 := by have := HOK.out; unfold okR at this; omega
      obtain ⟨hB1, hB2, hB3⟩ := hB
      have hq : 0 ≤ C / P := Int.ediv_nonneg (by omega) (by omega)
      have hq2 : C / P ≤ 68719476736 := Int.le_trans (Int.ediv_le_self _ (by omega)) hB3
      have hp0 : (P == 0) = false := by simp; omega
      have hBP : 0 ≤ B * P ∧ B * P ≤ 68719476736 * 524288 := ⟨Int.mul_nonneg (by omega) (by omega), Int.mul_le_mul (by omega) hp2 (by omega) (by omega)⟩
      have hwr : wrap64 (B * P) = B * P := by obtain ⟨a, b⟩ := hBP; generalize B * P = z at *; unfold wrap64; omega
      have hwr2 : IntKind.i64.wrap (B * P) = B * P := by obtain ⟨a, b⟩ := hBP; exact IntWalk.i64_in _ (by omega)
      clear hBP
      by_cases hle : B ≤ C / P
      · have hxe : x = B * P := by rw [HPX.out]; have := HQ.out.1 hle; omega
        subst hxe
        clear HPX HQ
        go_wp2_with fail
        go_quiet (fail)
        go_wp2_with fail
        go_at_call 16
        refine (works_any _).mono ?_
        rintro e v5 ⟨rfl, g5⟩
        go_wp2_with fail
        go_ret
        exact ⟨rfl, gX.trans (((G.refl v2).drewN _).trans g5)⟩
      · have hxe : x = C := by rw [HPX.out]; have := mt HQ.out.2 hle; omega
        subst hxe
        have hle' : decide (B ≤ x / P) = false := by simpa using hle
        clear HPX HQ
        go_wp2_with fail
        go_quiet (fail)
        go_wp2_with fail
        go_at_call 16
        refine (works_any _).mono ?_
        rintro e v5 ⟨rfl, g5⟩
        go_wp2_with fail
        go_ret
        exact ⟨rfl, gX.trans (((G.refl v2).drewN _).trans g5)⟩
  · have HC : Hid (chkE M B C J = 16) := Lib.hid (if_neg hok)
    have HL : Hid (waitsL M B C J = []) := Lib.hid (if_neg hok)
    clear hok
    go_enter Try.func7, Try.ntmps7
    have hX := Blk.new w 23 #[.int .i64 M, .int .i64 B, .int .i64 C, .int .i64 J]
    have gX : G w (w.alloc (.cells #[.int .i64 M, .int .i64 B, .int .i64 C, .int .i64 J] 23)) := (by repeat (first | exact G.refl _ | refine G.alloc ?_ _ | refine G.drewN ?_ _ | refine G.drew ?_ | refine G.trans ?_ (by assumption)))
    go_wp2_with fail
    go_at_call 14
    refine (check_any M B C J _).mono ?_
    rintro e v1 ⟨rfl, g⟩
    rw [HC.out]
    replace hX := hX.g g
    replace gX := gX.trans g
    clear g
    have x0 : v1.cell? ⟨w.heap.size, 0, none⟩ = some (.int .i64 M) := hX.cell 0
    have x1 : v1.cell? ⟨w.heap.size, 1, none⟩ = some (.int .i64 B) := hX.cell 1
    have x2 : v1.cell? ⟨w.heap.size, 2, none⟩ = some (.int .i64 C) := hX.cell 2
    have x3 : v1.cell? ⟨w.heap.size, 3, none⟩ = some (.int .i64 J) := hX.cell 3
    go_wp2_with fail
    go_at_call 16
    refine (works_any _).mono ?_
    rintro e v3 ⟨rfl, g⟩
    go_wp2_with fail
    go_ret
    exact ⟨rfl, gX.trans g⟩
set_option maxHeartbeats 2000000 in
theorem contract (H : Type) (enc : TypeId × Value → H) (W : World) (base : Nat) (args : Array Value) (ds gs : List (DataW H)) (before : List MemPlace)
    (hval : ∀ (j : Nat) t v, Try.f7.params[j]? = some t → args[j]? = some v → Value.okWide Try.prog W .any base t v)
    (hW : DataW.Whole enc Try.prog Try.f7.params.toList Rows.backoffPowersSpec.vars false W args.toList ds gs before) :
    Calls Try.prog 7 args W fun e W' => ∃ v, e = .returned v ∧ Rows.backoffPowersSpec.post enc Try.prog Try.f7 false true false false W args v W' := by
  have hW' := hW
  obtain ⟨p, q, hA0, hV, rfl, hfz, hnd⟩ := hW
  have hA : DataW.TrodAll enc Try.prog W 0 (fun _ => true) true Try.f7.params.toList args.toList ds p := hA0
  rw [Try.params7] at hA hval
  obtain ⟨v0, vs0, d0, ds0, p0, q0, hargs, rfl, rfl, h0, r0⟩ := trodAll_cons hA
  obtain ⟨v1, vs1, d1, ds1, p1, q1, rfl, rfl, rfl, h1, r1⟩ := trodAll_cons r0
  obtain ⟨rfl, rfl, rfl⟩ := trodAll_nil r1
  obtain rfl : args = #[v0, v1] := by cases args; simp_all
  obtain ⟨a0, b0, c0, e0, rfl⟩ := open_retry (hval 0 23 v0 rfl rfl) h0
  obtain ⟨a1, rfl, rfl, rfl, w1⟩ := open_int Try.underlying5 (hval 1 5 v1 rfl rfl) h1
  simp [Lit.wf, IntKind.min, IntKind.max, IntKind.bits, IntKind.signed] at w1
  refine (walk (w := W) a0 b0 c0 e0 a1 (by omega) (by omega)).mono fun e W' ⟨he, hg⟩ => ?_
  subst he
  exact ⟨_, rfl, law_post laidOut_ (by
    intro t ht
    rw [Try.params7] at ht
    simp at ht
    rcases ht with rfl | rfl <;> exact ⟨by kernel_rfl, by decide +kernel⟩) hW' rfl rfl (by kernel_rfl) Try.underlying4 hg⟩
set_option maxRecDepth 100000 in
theorem lifted (os : Os) (started : os.Started) (H : Type) (enc : TypeId × Value → H) :
    ReturnsInHanded {} Try.checked os 7 .any (Rows.backoffPowersSpec.pre6 enc Try.prog Try.f7 Rows.backoffPowersRow.domain false) (Rows.backoffPowersSpec.post enc Try.prog Try.f7 false true false false) := by
  refine returnsInHanded_of_change (C := Try.checked) own_ started (by kernel_rfl) Try.func7
    (ChangeSpec.witness6 (enc := enc) (C := Try.checked) false ⟨#[], #[.agg #[.int .i64 0, .int .i64 0, .int .i64 0, .int .i64 0], .int .u8 0], []⟩ 8 (by kernel_rfl) (by kernel_rfl) (by kernel_rfl) (by kernel_rfl)) ?_
  intro W base args ds gs before hval hW _ _
  exact contract H enc W base args ds gs before hval hW
theorem said : Rows.BackoffPowersSaid :=
  OpenClaim.holds_of_wide 7 Try.f7 rfl rfl rfl rfl rfl rfl rfl ⟨rfl, rfl, rfl, rfl, rfl⟩ rfl rfl rfl rfl rfl (by kernel_rfl) Try.func7 (by kernel_rfl)
    (of_decide_eq_true (by kernel_rfl)) (by unfold Func.isWrapper; first | (rw [if_pos (by decide +kernel)]; kernel_rfl) | (rw [if_neg (by decide +kernel)]; exact ⟨rfl, rfl⟩))
    (fun os started H enc _ => lifted os started H enc)
#print axioms said
end Go.Proofs.Ytabgddiecddbhaa.lawBackoffPowers
