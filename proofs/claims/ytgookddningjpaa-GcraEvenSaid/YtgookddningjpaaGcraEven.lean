/-
  GcraEven: launches that are T seconds apart, or more, are all allowed.
-/
import Derived.Test.YtgookddningjpaaTieP
import Derived.Test.YtgookddningjpaaGcS
set_option linter.unusedVariables false
set_option linter.unusedSimpArgs false
namespace Go.Proofs.Ytgookddningjpaa.lawGcraEven
open Go.ChangeShapes Go.WideShapes Go.ChangeAt Go.RowKit

theorem small_valid {t u : Int} (h0 : 0 ≤ t) (u0 : 0 ≤ u) (u1 : u ≤ 255) : validL (smT t) (smU t u) := by
  unfold validL smT smU
  split <;> omega
theorem tat_apart {l : List Int} {T : Int} (hT : 0 ≤ T) {n : Nat} (h0 : 0 ≤ at_ l 0) (ha : ∀ k, k + 1 < n → at_ l k + T ≤ at_ l (k + 1)) : ∀ k, k < n → tatTo l T k ≤ at_ l k
  | 0, _ => h0
  | k + 1, h => by
    have ih := tat_apart hT h0 ha k (by omega)
    have := ha k h
    unfold tatTo
    omega
theorem sorted_apart {l : List Int} {T : Int} (hT : 0 ≤ T) {n : Nat} (ha : ∀ k, k + 1 < n → at_ l k + T ≤ at_ l (k + 1)) : ∀ k, k ≤ n → sortedTo l k = true
  | 0, _ => rfl
  | k + 1, h => by
    unfold sortedTo
    rw [sorted_apart hT ha k (by omega), Bool.true_and]
    cases k with
    | zero => simp
    | succ j =>
      have := ha j (by omega)
      simp
      omega
theorem fits_apart {l : List Int} {T Tau : Int} (hv : validL T Tau) (hl : l.length ≤ 100000) (ht : ∀ k, k < l.length → isT (at_ l k)) (ha : ∀ k, k + 1 < l.length → at_ l k + T ≤ at_ l (k + 1)) : fitsAll l T Tau = (0, false, 0) := by
  have hT : 0 ≤ T := hv.1.1
  have hU : 0 ≤ Tau := hv.2.1.1
  unfold fitsAll
  rw [if_neg (by simpa using hv), if_neg (by omega), if_neg (by simpa using ht), if_neg (by rw [sorted_apart hT ha _ (Nat.le_refl _)]; simp)]
  have : firstE (isEarly l T Tau) l.length = none := firstE_none (fun j hj => by
    have h0 : 0 ≤ at_ l 0 := (ht 0 (by omega)).1
    have := tat_apart hT h0 ha j hj
    unfold isEarly earlyB
    rw [decide_eq_false (p := at_ l j < tatTo l T j - Tau) (by omega)]
    simp)
  rw [this]
theorem fits_up {l : List Int} {T Tau c q : Int} {m : Nat} (hv : validL T Tau) (hc0 : 0 ≤ c) (hc1 : c ≤ 1000) (hT1 : T ≤ 31) (hq0 : 0 < q) (hq1 : q ≤ 64) (hm : m ≤ 60) : fitsAll (upA l c T q m) T Tau = (0, false, 0) := by
  have hT : 0 ≤ T := hv.1.1
  have hb := accA_bound l c T q hc0 hT hq0
  have hmul : ∀ k : Nat, k ≤ 60 → (T + q) * (k : Int) ≤ 95 * 60 := fun k hk => Int.mul_le_mul (by omega) (by omega) (by omega) (by omega)
  refine fits_apart hv (by rw [upA_len]; omega) (fun k hk => ?_) (fun k hk => ?_)
  · rw [upA_len] at hk
    rw [upA_at l c T q hk]
    have h1 := hb (k + 1)
    have h2 := hmul (k + 1) (by omega)
    exact ⟨by omega, by omega⟩
  · rw [upA_len] at hk
    rw [upA_at l c T q hk, upA_at l c T q (by omega : k < m)]
    have := Int.emod_nonneg (at_ l (k + 1)) (by omega : q ≠ 0)
    rw [show accA l c T q (k + 1 + 1) = accA l c T q (k + 1) + (T + at_ l (k + 1) % q) from rfl]
    omega

set_option maxHeartbeats 4000000 in
theorem walk {w : World} (t : Int) (h0 : 0 ≤ t) (h1 : t ≤ 255) (u : Int) (u0 : 0 ≤ u) (u1 : u ≤ 255) (v : Value) (l : List Int) (hR : Rd w v (vI .u8 l)) (hl : ∀ x ∈ l, (Lit.int .u8 x).wf = true) :
    Calls Try.prog 3 #[.int .u8 t, .int .u8 u, v] w fun e w' => e = .returned (.bool true) ∧ G w w' := by
  have hi : (Try.prog.info? 2).map (fun i => (i.zero, i.size, i.bytes)) = some (some (.int .i64 0), 1, 8) := by kernel_rfl
  obtain ⟨i0, hi_, hz0, hz1, hz2⟩ := info_parts hi
  clear hi
  have hi := hi_
  have HL := Lib.hid (fun k (h : k < l.length) => u8_at hl h)
  have HS := Lib.hid hl
  have HR := Lib.hid hR
  obtain ⟨a, cap, rfl, hcap, hmx, hcell⟩ := hR
  rw [vI_len] at hcap
  rw [vI_len] at HR ⊢
  have HC := Lib.hid hcell
  clear hl hcell
  have hv : validL (smT t) (smU t u) := small_valid h0 u0 u1
  have HV := Lib.hid hv
  clear hv
  have T0 : 0 ≤ smT t := by unfold smT; omega
  have T1 : smT t ≤ 31 := by unfold smT; omega
  by_cases hm : l.length ≤ 60
  · have HM := Lib.hid hm
    go_enter Try.func3, Try.ntmps3
    go_wp2_with fail
    refine (small_any t u h0 h1 u0 u1 _).mono ?_
    rintro e w1 ⟨rfl, g1⟩
    generalize hTe : smT t = T at *
    generalize hUe : smU t u = U at *
    go_wp2_with fail
    have hX := Blk.new w1 24 #[.int .i64 T, .int .i64 U]
    have gX : G w (w1.alloc (.cells #[.int .i64 T, .int .i64 U] 24)) := (by repeat (first | exact G.refl _ | refine G.alloc ?_ _ | refine G.drewN ?_ _ | refine G.drew ?_ | refine G.trans ?_ (by assumption)))
    have hkX := g1.size
    generalize w1.alloc (.cells #[.int .i64 T, .int .i64 U] 24) = w2 at *
    generalize w1.heap.size = kX at *
    have hkX2 := hX.lt
    go_loopw [8, 9, 24] (fun t v i wr => ∃ k : Nat, k ≤ l.length ∧ t = .int .i64 (accA l 0 T 4 k) ∧ i = .int .i64 k ∧ G w2 wr ∧ wr.ownsRow w2.heap.size 2 1 v k (vI .i64 (upA l 0 T 4 k))) (fun _ _ i _ => l.length - (intOf i).toNat)
    case atStart => exact ⟨0, by omega, rfl, rfl, G.refl _, by exact World.ownsRow_nil _ _ _ _⟩
    case round =>
      obtain ⟨k, hk, rfl, rfl, hg, hown⟩ := hrel
      have hXr := hX.g hg
      have x0 : wr.cell? ⟨kX, 0, none⟩ = some (.int .i64 T) := hXr.cell 0
      have x1 : wr.cell? ⟨kX, 1, none⟩ = some (.int .i64 U) := hXr.cell 1
      by_cases hlt : k < l.length
      · obtain ⟨b, o, rfl, hc⟩ := HC.out (by rw [vI_len]; omega)
        have d0 := at_vQ hc (k := k) (by omega)
        have d0 := (gX.trans hg).cell (World.block_lt_of_cell? w _ d0) d0
        obtain ⟨x0_, x1_⟩ := HL.out k (by omega)
        have hA := accA_bound l 0 T 4 (by omega) (by omega) (by omega) k
        have hmul : (T + 4) * (k : Int) ≤ 35 * 60 := Int.mul_le_mul (by omega) (by omega) (by omega) (by omega)
        have hS : accA l 0 T 4 (k + 1) = accA l 0 T 4 k + (T + at_ l k % 4) := rfl
        have hU : upA l 0 T 4 (k + 1) = upA l 0 T 4 k ++ [accA l 0 T 4 (k + 1)] := rfl
        rw [hS] at hU
        have HSS := Lib.hid hS
        have HU := Lib.hid hU
        clear hS hU hc
        have A0 : 0 ≤ accA l 0 T 4 k := hA.1
        have A1 : accA l 0 T 4 k ≤ 2100 := by omega
        clear hA hmul
        generalize at_ l k = x at *
        generalize accA l 0 T 4 k = A at *
        have hsz := hg.size
        have y0 : 0 ≤ x % 4 := by omega
        have y1 : x % 4 < 4 := by omega
        go_wp2_with (at_builtin; refine wpList_append_own _ rfl _ _ 26 rfl w2.heap.size 2 i0 (.int .i64 0) 1 8 Try.underlying26 hi hz0 hz1 hz2 rfl (by decide) _ _ _ rfl (hown.alloc _) ⟨wr.heap.size, 0, none⟩ 1 1 [.int .i64 (A + (T + x % 4))] rfl rfl (cell_one_new _ _ _) (by simp [Value.oneCell']) (by unfold maxLen; omega) (by omega) (by simp; omega) ?_; intro v' w3 hown' hgrow _)
        have hg1 : G w2 w3 := (hg.alloc _).grown hgrow (fun r e => (hown.lt r e).1)
        rw [vI_app_, ← HU.out] at hown'
        go_wp2_with fail
        go_roundw
        case rel => exact ⟨k + 1, by omega, by rw [HSS.out], by go_num, hg1, hown'⟩
        case measure => simp [intOf]; omega
      · obtain rfl : k = l.length := by omega
        clear hi hz0 hz1 hz2 hi_
        go_wp2_with fail
        refine (fits_any _ _ T U _ (Rd.of_own hown)).mono ?_
        rintro e w3 ⟨rfl, g3⟩
        rw [fits_up (c := 0) (q := 4) HV.out (by omega) (by omega) T1 (by omega) (by omega) (by omega)]
        go_wp2_with fail
        have gw3 : G w w3 := (gX.trans hg).trans g3
        refine (steps_any _ l HS.out _ (HR.out.g gw3)).mono ?_
        rintro e w4 ⟨u4, rfl, g4, own4⟩
        go_wp2_with fail
        refine (fits_any _ _ 0 0 _ (Rd.of_own own4)).mono ?_
        rintro e w5 ⟨rfl, g5⟩
        rw [fits_up (c := 1000) (q := 64) (T := 0) (by decide) (by omega) (by omega) (by omega) (by omega) (by omega) (by omega)]
        go_wp2_with fail
        refine (works_any _).mono ?_
        rintro e w6 ⟨rfl, g6⟩
        go_wp2_with fail
        go_ret
        exact ⟨rfl, ((gw3.trans g4).trans g5).trans g6⟩
  · have hm : 60 < l.length := by omega
    go_enter Try.func3, Try.ntmps3
    go_wp2_with fail
    refine (small_any t u h0 h1 u0 u1 _).mono ?_
    rintro e w1 ⟨rfl, g1⟩
    generalize hTe : smT t = T at *
    generalize hUe : smU t u = U at *
    go_wp2_with fail
    have hX := Blk.new w1 24 #[.int .i64 T, .int .i64 U]
    have gX : G w (w1.alloc (.cells #[.int .i64 T, .int .i64 U] 24)) := (by repeat (first | exact G.refl _ | refine G.alloc ?_ _ | refine G.drewN ?_ _ | refine G.drew ?_ | refine G.trans ?_ (by assumption)))
    have hkX := g1.size
    generalize w1.alloc (.cells #[.int .i64 T, .int .i64 U] 24) = w2 at *
    generalize w1.heap.size = kX at *
    have hkX2 := hX.lt
    go_loopw [8, 9, 24] (fun t v i wr => ∃ k : Nat, k ≤ 60 ∧ t = .int .i64 (accA l 0 T 4 k) ∧ i = .int .i64 k ∧ G w2 wr ∧ wr.ownsRow w2.heap.size 2 1 v k (vI .i64 (upA l 0 T 4 k))) (fun _ _ i _ => 60 - (intOf i).toNat)
    case atStart => exact ⟨0, by omega, rfl, rfl, G.refl _, by exact World.ownsRow_nil _ _ _ _⟩
    case round =>
      obtain ⟨k, hk, rfl, rfl, hg, hown⟩ := hrel
      have hXr := hX.g hg
      have x0 : wr.cell? ⟨kX, 0, none⟩ = some (.int .i64 T) := hXr.cell 0
      have x1 : wr.cell? ⟨kX, 1, none⟩ = some (.int .i64 U) := hXr.cell 1
      by_cases hlt : k < 60
      · obtain ⟨b, o, rfl, hc⟩ := HC.out (by rw [vI_len]; omega)
        have d0 := at_vQ hc (k := k) (by omega)
        have d0 := (gX.trans hg).cell (World.block_lt_of_cell? w _ d0) d0
        obtain ⟨x0_, x1_⟩ := HL.out k (by omega)
        have hA := accA_bound l 0 T 4 (by omega) (by omega) (by omega) k
        have hmul : (T + 4) * (k : Int) ≤ 35 * 60 := Int.mul_le_mul (by omega) (by omega) (by omega) (by omega)
        have hS : accA l 0 T 4 (k + 1) = accA l 0 T 4 k + (T + at_ l k % 4) := rfl
        have hU : upA l 0 T 4 (k + 1) = upA l 0 T 4 k ++ [accA l 0 T 4 (k + 1)] := rfl
        rw [hS] at hU
        have HSS := Lib.hid hS
        have HU := Lib.hid hU
        clear hS hU hc
        have A0 : 0 ≤ accA l 0 T 4 k := hA.1
        have A1 : accA l 0 T 4 k ≤ 2100 := by omega
        clear hA hmul
        generalize at_ l k = x at *
        generalize accA l 0 T 4 k = A at *
        have hsz := hg.size
        have y0 : 0 ≤ x % 4 := by omega
        have y1 : x % 4 < 4 := by omega
        go_wp2_with (at_builtin; refine wpList_append_own _ rfl _ _ 26 rfl w2.heap.size 2 i0 (.int .i64 0) 1 8 Try.underlying26 hi hz0 hz1 hz2 rfl (by decide) _ _ _ rfl (hown.alloc _) ⟨wr.heap.size, 0, none⟩ 1 1 [.int .i64 (A + (T + x % 4))] rfl rfl (cell_one_new _ _ _) (by simp [Value.oneCell']) (by unfold maxLen; omega) (by omega) (by simp; omega) ?_; intro v' w3 hown' hgrow _)
        have hg1 : G w2 w3 := (hg.alloc _).grown hgrow (fun r e => (hown.lt r e).1)
        rw [vI_app_, ← HU.out] at hown'
        go_wp2_with fail
        go_roundw
        case rel => exact ⟨k + 1, by omega, by rw [HSS.out], by go_num, hg1, hown'⟩
        case measure => simp [intOf]; omega
      · obtain rfl : k = 60 := by omega
        clear hi hz0 hz1 hz2 hi_
        go_wp2_with fail
        refine (fits_any _ _ T U _ (Rd.of_own hown)).mono ?_
        rintro e w3 ⟨rfl, g3⟩
        rw [fits_up (c := 0) (q := 4) HV.out (by omega) (by omega) T1 (by omega) (by omega) (by omega)]
        go_wp2_with fail
        have gw3 : G w w3 := (gX.trans hg).trans g3
        refine (steps_any _ l HS.out _ (HR.out.g gw3)).mono ?_
        rintro e w4 ⟨u4, rfl, g4, own4⟩
        go_wp2_with fail
        refine (fits_any _ _ 0 0 _ (Rd.of_own own4)).mono ?_
        rintro e w5 ⟨rfl, g5⟩
        rw [fits_up (c := 1000) (q := 64) (T := 0) (by decide) (by omega) (by omega) (by omega) (by omega) (by omega) (by omega)]
        go_wp2_with fail
        refine (works_any _).mono ?_
        rintro e w6 ⟨rfl, g6⟩
        go_wp2_with fail
        go_ret
        exact ⟨rfl, ((gw3.trans g4).trans g5).trans g6⟩
set_option maxHeartbeats 2000000 in
theorem contract (H : Type) (enc : TypeId × Value → H) (W : World) (base : Nat) (args : Array Value) (ds gs : List (DataW H)) (before : List MemPlace)
    (hval : ∀ (j : Nat) t v, Try.f3.params[j]? = some t → args[j]? = some v → Value.okWide Try.prog W .any base t v)
    (hW : DataW.Whole enc Try.prog Try.f3.params.toList Rows.gcraEvenSpec.vars false W args.toList ds gs before) :
    Calls Try.prog 3 args W fun e W' => ∃ v, e = .returned v ∧ Rows.gcraEvenSpec.post enc Try.prog Try.f3 false true false false W args v W' := by
  have hW' := hW
  obtain ⟨p, q, hA0, hV, rfl, hfz, hnd⟩ := hW
  have hA : DataW.TrodAll enc Try.prog W 0 (fun _ => true) true Try.f3.params.toList args.toList ds p := hA0
  rw [Try.params3] at hA hval
  obtain ⟨v0, vs0, d0, ds0, p0, q0, hargs, rfl, rfl, h0, r0⟩ := trodAll_cons hA
  obtain ⟨v1, vs1, d1, ds1, p1, q1, rfl, rfl, rfl, h1, r1⟩ := trodAll_cons r0
  obtain ⟨v2, vs2, d2, ds2, p2, q2, rfl, rfl, rfl, h2, r2⟩ := trodAll_cons r1
  obtain ⟨rfl, rfl, rfl⟩ := trodAll_nil r2
  obtain rfl : args = #[v0, v1, v2] := by cases args; simp_all
  obtain ⟨a0, rfl, rfl, rfl, w0⟩ := open_int Try.underlying5 (hval 0 5 v0 rfl rfl) h0
  simp [Lit.wf, IntKind.min, IntKind.max, IntKind.bits, IntKind.signed] at w0
  obtain ⟨a1, rfl, rfl, rfl, w1⟩ := open_int Try.underlying5 (hval 1 5 v1 rfl rfl) h1
  simp [Lit.wf, IntKind.min, IntKind.max, IntKind.bits, IntKind.signed] at w1
  obtain ⟨l2, R2, B2⟩ := open_list (k := .u8) Try.underlying22 Try.underlying5 (by kernel_rfl) (hval 2 22 v2 rfl rfl) h2
  refine (walk (w := W) a0 (by omega) (by omega) a1 (by omega) (by omega) v2 l2 R2 B2).mono fun e W' ⟨he, hg⟩ => ?_
  subst he
  exact ⟨_, rfl, law_post laidOut_ (by intro t ht; rw [Try.params3] at ht; simp at ht; rcases ht with rfl | rfl <;> exact ⟨by kernel_rfl, by decide +kernel⟩) hW' rfl rfl (by kernel_rfl) Try.underlying4 hg⟩
set_option maxRecDepth 100000 in
theorem lifted (os : Os) (started : os.Started) (H : Type) (enc : TypeId × Value → H) :
    ReturnsInHanded {} Try.checked os 3 .any (Rows.gcraEvenSpec.pre6 enc Try.prog Try.f3 Rows.gcraEvenRow.domain false) (Rows.gcraEvenSpec.post enc Try.prog Try.f3 false true false false) := by
  refine returnsInHanded_of_change (C := Try.checked) own_ started (by kernel_rfl) Try.func3
    (ChangeSpec.witness6 (enc := enc) (C := Try.checked) false ⟨#[], #[.int .u8 0, .int .u8 0, .slice none 0 0], []⟩ 8 (by kernel_rfl) (by kernel_rfl) (by kernel_rfl) (by kernel_rfl)) ?_
  intro W base args ds gs before hval hW _ _
  exact contract H enc W base args ds gs before hval hW
theorem said : Rows.GcraEvenSaid :=
  OpenClaim.holds_of_wide 3 Try.f3 rfl rfl rfl rfl rfl rfl rfl ⟨rfl, rfl, rfl, rfl, rfl⟩ rfl rfl rfl rfl rfl (by kernel_rfl) Try.func3 (by kernel_rfl)
    (of_decide_eq_true (by kernel_rfl)) (by unfold Func.isWrapper; first | (rw [if_pos (by decide +kernel)]; kernel_rfl) | (rw [if_neg (by decide +kernel)]; exact ⟨rfl, rfl⟩))
    (fun os started H enc _ => lifted os started H enc)
#print axioms said
end Go.Proofs.Ytgookddningjpaa.lawGcraEven
