/-
  GcraFirst: Fits finds the first launch that is not counted when all before it are.
-/
import Derived.Test.YtgookddningjpaaTieP
import Derived.Test.YtgookddningjpaaGcT
set_option linter.unusedVariables false
set_option linter.unusedSimpArgs false
namespace Go.Proofs.Ytgookddningjpaa.lawGcraFirst
open Go.ChangeShapes Go.WideShapes Go.ChangeAt Go.RowKit

set_option maxHeartbeats 4000000 in
theorem walk {w : World} (t : Int) (h0 : 0 ≤ t) (h1 : t ≤ 255) (u : Int) (u0 : 0 ≤ u) (u1 : u ≤ 255) (v : Value) (l : List Int) (hR : Rd w v (vI .u8 l)) (hl : ∀ x ∈ l, (Lit.int .u8 x).wf = true) :
    Calls Try.prog 4 #[.int .u8 t, .int .u8 u, v] w fun e w' => e = .returned (.bool true) ∧ G w w' := by
  have HS := Lib.hid hl
  have hv : validL (smT t) (smU t u) := small_valid h0 u0 u1
  have HV := Lib.hid hv
  have HO := Lib.hid (stepsOk l)
  clear hv hl
  go_enter Try.func4, Try.ntmps4
  go_wp2_with fail
  refine (small_any t u h0 h1 u0 u1 _).mono ?_
  rintro e w1 ⟨rfl, g1⟩
  clear h0 h1 u0 u1
  generalize smT t = T at *
  generalize smU t u = U at *
  go_wp2_with fail
  refine (steps_any v l HS.out _ (hR.g g1)).mono ?_
  rintro e w2 ⟨ts, rfl, g2, own2⟩
  have hRd := Rd.of_own own2
  clear own2 HS hR
  generalize upA l 1000 0 64 (min l.length 60) = L at *
  obtain ⟨a, cap, rfl, hcap, hmx, hcell⟩ := hRd
  rw [vI_len] at hcap
  rw [vI_len]
  have HC := Lib.hid hcell
  clear hcell
  have gg := g1.trans g2
  clear g1 g2 w1
  go_wp2_with fail
  have hX := Blk.new w2 24 #[.int .i64 T, .int .i64 U]
  have gX : G w2 (w2.alloc (.cells #[.int .i64 T, .int .i64 U] 24)) := (by repeat (first | exact G.refl _ | refine G.alloc ?_ _ | refine G.drewN ?_ _ | refine G.drew ?_ | refine G.trans ?_ (by assumption)))
  have gW : G w (w2.alloc (.cells #[.int .i64 T, .int .i64 U] 24)) := (by repeat (first | exact G.refl _ | refine G.alloc ?_ _ | refine G.drewN ?_ _ | refine G.drew ?_ | refine G.trans ?_ (by assumption)))
  refine (new_yes T U HV.out _).mono ?_
  rintro e w3 ⟨kL, rfl, hkL, g3, hL⟩
  have hX3 := hX.g g3
  have x0 : w3.cell? ⟨w2.heap.size, 0, none⟩ = some (.int .i64 T) := hX3.cell 0
  have x1 : w3.cell? ⟨w2.heap.size, 1, none⟩ = some (.int .i64 U) := hX3.cell 1
  have g23 : G w2 w3 := gX.trans g3
  have gW3 : G w w3 := gW.trans g3
  have hkw : w.heap.size ≤ kL := Nat.le_trans gW.size hkL
  have hk2 : w2.heap.size ≤ kL := Nat.le_trans gX.size hkL
  clear hX hX3 gX gW g3 hkL gg
  generalize w2.heap.size = kX at x0 x1 ⊢
  go_wp2_with fail
  have hRd3 : Rd w3 (.slice a L.length cap) (vI .i64 L) := Rd.g ⟨a, cap, by rw [vI_len], by rw [vI_len]; exact hcap, hmx, HC.out⟩ g23
  refine (fits_any _ L T U _ hRd3).mono ?_
  rintro e w4 ⟨rfl, g4⟩
  have hL4 := hL.g g4
  have gW4 := gW3.trans g4
  have g24 := g23.trans g4
  clear hRd3 hL gW3 g23 g4 x0 x1
  rcases hf : firstE (isEarly L T U) L.length with _ | i
  · have HF := Lib.hid (firstE_none' hf)
    rw [fits_none HV.out HO.out hf]
    clear hf
    go_wp2_with fail

    go_loopw [63] (fun i_ wr => ∃ k : Nat, k ≤ L.length ∧ i_ = .int .i64 k ∧ G w wr ∧ Lim wr kL (decide (0 < k)) (tatTo L T k) (lastTo L k) T U ∧ w2.grownBy wr (some kL)) (fun i_ _ => L.length - (intOf i_).toNat)
    case atStart => exact ⟨0, by omega, rfl, gW4, hL4, grown_of_G g24 _⟩
    case round =>
      obtain ⟨k, hk, rfl, hg, hLk, hg2⟩ := hrel
      clear gW4 hL4 g24
      by_cases hlt : k < L.length
      · obtain ⟨b, o, rfl, hc⟩ := HC.out (by rw [vI_len]; omega)
        have d0 := at_vQ hc (k := k) (by omega)
        have hb := World.block_lt_of_cell? w2 _ d0
        have d0 : wr.cell? ⟨b, o + k, none⟩ = some (.int .i64 (at_ L k)) := hg2.cell d0 (by intro h; cases h; exact absurd hb (Nat.not_lt.2 hk2))
        have HOK := Lib.hid (tatTo_ok HV.out k (fun j hj => HO.out.isT j (by omega)) (fun j hj => HF.out j (by omega)) k (Nat.le_refl _)).1
        clear hc hb
        have HE := Lib.hid (check_fine HO.out (k := k) (T := T) (Tau := U) (by omega) (HF.out k (by omega)))
        have hlk : (k : Int) < (L.length : Int) := by omega
        go_wp2_with fail
        refine (take_ok kL _ _ _ _ _ _ HOK.out HE.out _ hLk).mono ?_
        rintro e w5 ⟨rfl, g5, hL5⟩
        go_wp2_with fail
        go_roundw
        case rel => exact ⟨k + 1, by omega, by go_num, hg.own g5 hkw, (by rw [show decide (0 < k + 1) = true by simp]; exact hL5), grown_trans hg2 g5⟩
        case measure => simp [intOf]; omega
      · obtain rfl : k = L.length := by omega
        go_wp2_with fail
        refine (works_any _).mono ?_
        rintro e w6 ⟨rfl, g6⟩
        go_wp2_with fail
        go_ret
        exact ⟨rfl, hg.trans g6⟩
  · have HF := Lib.hid (firstE_some' hf)
    rw [fits_some HV.out HO.out hf]
    clear hf
    have hi := HF.out.1
    have c1 : decide ((i : Int) < 0) = false := by simp
    have c2 : decide ((L.length : Int) ≤ (i : Int)) = false := by simp; omega
    have c3 : decide (L.length ≤ i) = false := by simp; omega
    go_wp2_with fail
    try simp only [c3]
    go_loopw [63] (fun i_ wr => ∃ k : Nat, k ≤ i ∧ i_ = .int .i64 k ∧ G w wr ∧ Lim wr kL (decide (0 < k)) (tatTo L T k) (lastTo L k) T U ∧ w2.grownBy wr (some kL)) (fun i_ _ => L.length - (intOf i_).toNat)
    case atStart => exact ⟨0, by omega, rfl, gW4, hL4, grown_of_G g24 _⟩
    case round =>
      obtain ⟨k, hk, rfl, hg, hLk, hg2⟩ := hrel
      clear gW4 hL4 g24
      by_cases hlt : k < i
      · obtain ⟨b, o, rfl, hc⟩ := HC.out (by rw [vI_len]; omega)
        have d0 := at_vQ hc (k := k) (by omega)
        have hb := World.block_lt_of_cell? w2 _ d0
        have d0 : wr.cell? ⟨b, o + k, none⟩ = some (.int .i64 (at_ L k)) := hg2.cell d0 (by intro h; cases h; exact absurd hb (Nat.not_lt.2 hk2))
        have HOK := Lib.hid (tatTo_ok HV.out k (fun j hj => HO.out.isT j (by omega)) (fun j hj => HF.out.2.2 j (by omega)) k (Nat.le_refl _)).1
        clear hc hb
        have HE := Lib.hid (check_fine HO.out (k := k) (T := T) (Tau := U) (by omega) (HF.out.2.2 k (by omega)))
        have hlk : (k : Int) < (L.length : Int) := by omega
        have hki : (k : Int) < (i : Int) := by omega
        have hke : ((k : Int) == (i : Int)) = false := by simp; omega
        go_wp2_with fail
        refine (take_ok kL _ _ _ _ _ _ HOK.out HE.out _ hLk).mono ?_
        rintro e w5 ⟨rfl, g5, hL5⟩
        go_wp2_with fail
        go_roundw
        case rel => exact ⟨k + 1, by omega, by go_num, hg.own g5 hkw, (by rw [show decide (0 < k + 1) = true by simp]; exact hL5), grown_trans hg2 g5⟩
        case measure => simp [intOf]; omega
      · obtain rfl : k = i := by omega
        obtain ⟨b, o, rfl, hc⟩ := HC.out (by rw [vI_len]; omega)
        have d0 := at_vQ hc (k := k) (by omega)
        have hb := World.block_lt_of_cell? w2 _ d0
        have d0 : wr.cell? ⟨b, o + k, none⟩ = some (.int .i64 (at_ L k)) := hg2.cell d0 (by intro h; cases h; exact absurd hb (Nat.not_lt.2 hk2))
        have HOK := Lib.hid (tatTo_ok HV.out k (fun j hj => HO.out.isT j (by omega)) (fun j hj => HF.out.2.2 j (by omega)) k (Nat.le_refl _)).1
        clear hc hb
        have HE := Lib.hid (check_early HO.out (k := k) (T := T) (Tau := U) HF.out.1 HF.out.2.1)
        have hlk : (k : Int) < (L.length : Int) := by omega
        have hkk : decide ((k : Int) < (k : Int)) = false := by simp
        have hke : ((k : Int) == (k : Int)) = true := by simp
        clear c1 c2 c3
        go_wp2_with fail
        refine (take_no kL _ _ _ _ _ _ HOK.out (by rw [HE.out]; decide) _ hLk).mono ?_
        rintro e w5 ⟨rfl, g5⟩
        rw [HE.out]
        go_wp2_with fail
        refine (works_any _).mono ?_
        rintro e w6 ⟨rfl, g6⟩
        go_wp2_with fail
        go_ret
        exact ⟨rfl, (hg.trans g5).trans g6⟩
set_option maxHeartbeats 2000000 in
theorem contract (H : Type) (enc : TypeId × Value → H) (W : World) (base : Nat) (args : Array Value) (ds gs : List (DataW H)) (before : List MemPlace)
    (hval : ∀ (j : Nat) t v, Try.f4.params[j]? = some t → args[j]? = some v → Value.okWide Try.prog W .any base t v)
    (hW : DataW.Whole enc Try.prog Try.f4.params.toList Rows.gcraFirstSpec.vars false W args.toList ds gs before) :
    Calls Try.prog 4 args W fun e W' => ∃ v, e = .returned v ∧ Rows.gcraFirstSpec.post enc Try.prog Try.f4 false true false false W args v W' := by
  have hW' := hW
  obtain ⟨p, q, hA0, hV, rfl, hfz, hnd⟩ := hW
  have hA : DataW.TrodAll enc Try.prog W 0 (fun _ => true) true Try.f4.params.toList args.toList ds p := hA0
  rw [Try.params4] at hA hval
  obtain ⟨v0, vs0, d0, ds0, p0, q0, hargs, rfl, rfl, h0, r0⟩ := trodAll_cons hA
  obtain ⟨v1, vs1, d1, ds1, p1, q1, rfl, rfl, rfl, h1, r1⟩ := trodAll_cons r0
  obtain ⟨v2, vs2, d2, ds2, p2, q2, rfl, rfl, rfl, h2, r2⟩ := trodAll_cons r1
  obtain ⟨rfl, rfl, rfl⟩ := trodAll_nil r2
  obtain rfl : args = #[v0, v1, v2] := by cases args; simp_all
  obtain ⟨a0, rfl, rfl, rfl, w0⟩ := open_int Try.underlying5 (hval 0 5 v0 rfl rfl) h0
  simp [Lit.wf, IntKind.min, IntKind.max, IntKind.bits, IntKind.signed] at w0
  obtain ⟨a1, rfl, rfl, rfl, w1⟩ := open_int Try.underlying5 (hval 1 5 v1 rfl rfl) h1
  simp [Lit.wf, IntKind.min, IntKind.max, IntKind.bits, IntKind.signed] at w1
  obtain ⟨l2, R2, B2⟩ := open_list (k := .u8) Try.underlying22 Try.underlying5 (by kernel_rfl) (hval 2 22 v2 rfl rfl) h2
  refine (walk (w := W) a0 (by omega) (by omega) a1 (by omega) (by omega) v2 l2 R2 B2).mono fun e W' ⟨he, hg⟩ => ?_
  subst he
  exact ⟨_, rfl, law_post laidOut_ (by intro t ht; rw [Try.params4] at ht; simp at ht; rcases ht with rfl | rfl <;> exact ⟨by kernel_rfl, by decide +kernel⟩) hW' rfl rfl (by kernel_rfl) Try.underlying4 hg⟩
set_option maxRecDepth 100000 in
theorem lifted (os : Os) (started : os.Started) (H : Type) (enc : TypeId × Value → H) :
    ReturnsInHanded {} Try.checked os 4 .any (Rows.gcraFirstSpec.pre6 enc Try.prog Try.f4 Rows.gcraFirstRow.domain false) (Rows.gcraFirstSpec.post enc Try.prog Try.f4 false true false false) := by
  refine returnsInHanded_of_change (C := Try.checked) own_ started (by kernel_rfl) Try.func4
    (ChangeSpec.witness6 (enc := enc) (C := Try.checked) false ⟨#[], #[.int .u8 0, .int .u8 0, .slice none 0 0], []⟩ 8 (by kernel_rfl) (by kernel_rfl) (by kernel_rfl) (by kernel_rfl)) ?_
  intro W base args ds gs before hval hW _ _
  exact contract H enc W base args ds gs before hval hW
theorem said : Rows.GcraFirstSaid :=
  OpenClaim.holds_of_wide 4 Try.f4 rfl rfl rfl rfl rfl rfl rfl ⟨rfl, rfl, rfl, rfl, rfl⟩ rfl rfl rfl rfl rfl (by kernel_rfl) Try.func4 (by kernel_rfl)
    (of_decide_eq_true (by kernel_rfl)) (by unfold Func.isWrapper; first | (rw [if_pos (by decide +kernel)]; kernel_rfl) | (rw [if_neg (by decide +kernel)]; exact ⟨rfl, rfl⟩))
    (fun os started H enc _ => lifted os started H enc)
#print axioms said
end Go.Proofs.Ytgookddningjpaa.lawGcraFirst
