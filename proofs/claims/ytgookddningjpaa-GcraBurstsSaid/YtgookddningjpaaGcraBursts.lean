/-
  GcraBursts: how many launches are allowed at one time is as the document says, or the error is.
-/
import Derived.Test.YtgookddningjpaaTieL
import Derived.Test.YtgookddningjpaaRefG
set_option linter.unusedVariables false
set_option linter.unusedSimpArgs false
namespace Go.Proofs.Ytgookddningjpaa.lawGcraBursts
open Go.ChangeShapes Go.WideShapes Go.ChangeAt Go.RowKit

set_option maxHeartbeats 4000000 in
theorem walk {w : World} (T U : Int) :
    Calls Try.prog 6 #[.agg #[.int .i64 T, .int .i64 U]] w fun e w' => e = .returned (.bool true) ∧ G w w' := by
  by_cases hv : validL T U
  · have HV := Lib.hid hv
    clear hv
    go_enter Try.func6, Try.ntmps6
    have hX := Blk.new w 24 #[.int .i64 T, .int .i64 U]
    have gX : G w (w.alloc (.cells #[.int .i64 T, .int .i64 U] 24)) := (by repeat (first | exact G.refl _ | refine G.alloc ?_ _ | refine G.drewN ?_ _ | refine G.drew ?_ | refine G.trans ?_ (by assumption)))
    go_wp2_with fail
    refine (burst_any T U _).mono ?_
    rintro e w1 ⟨rfl, g1⟩
    have hX1 := hX.g g1
    have gW1 := gX.trans g1
    have x0 : w1.cell? ⟨w.heap.size, 0, none⟩ = some (.int .i64 T) := hX1.cell 0
    have x1 : w1.cell? ⟨w.heap.size, 1, none⟩ = some (.int .i64 U) := hX1.cell 1
    clear hX gX g1
    go_wp2_with fail
    refine (rburst_any T U _).mono ?_
    rintro e w2 ⟨rfl, g2⟩
    generalize burstI T U = n at *
    generalize burstE T U = m at *
    have hX2 := hX1.g g2
    have gW2 := gW1.trans g2
    clear x0 x1 hX1 gW1 g2
    have x0 : w2.cell? ⟨w.heap.size, 0, none⟩ = some (.int .i64 T) := hX2.cell 0
    have x1 : w2.cell? ⟨w.heap.size, 1, none⟩ = some (.int .i64 U) := hX2.cell 1
    go_wp2_with fail
    refine (new_yes T U HV.out _).mono ?_
    rintro e w3 ⟨kL, rfl, hkL, g3, hL⟩
    have hX3 := hX2.g g3
    have gW3 := gW2.trans g3
    clear x0 x1 hX2 gW2 g3
    have x0 : w3.cell? ⟨w.heap.size, 0, none⟩ = some (.int .i64 T) := hX3.cell 0
    have x1 : w3.cell? ⟨w.heap.size, 1, none⟩ = some (.int .i64 U) := hX3.cell 1
    go_wp2_with fail
    refine (rnew_yes T U HV.out _).mono ?_
    rintro e w4 ⟨kR, rfl, hkR, g4, hRL⟩
    go_wp2_with fail
    refine (limit_any kL _ _ _ _ _ _ (hL.g g4)).mono ?_
    rintro e w5 ⟨rfl, g5⟩
    go_wp2_with fail
    refine (rlimit_any kR _ _ _ _ _ _ (hRL.g g5)).mono ?_
    rintro e w6 ⟨rfl, g6⟩
    go_wp2_with fail
    refine (works_any _).mono ?_
    rintro e w7 ⟨rfl, g7⟩
    go_wp2_with fail
    go_ret
    exact ⟨rfl, (((gW3.trans g4).trans g5).trans g6).trans g7⟩
  · have HV := Lib.hid hv
    clear hv
    go_enter Try.func6, Try.ntmps6
    have hX := Blk.new w 24 #[.int .i64 T, .int .i64 U]
    have gX : G w (w.alloc (.cells #[.int .i64 T, .int .i64 U] 24)) := (by repeat (first | exact G.refl _ | refine G.alloc ?_ _ | refine G.drewN ?_ _ | refine G.drew ?_ | refine G.trans ?_ (by assumption)))
    go_wp2_with fail
    refine (burst_any T U _).mono ?_
    rintro e w1 ⟨rfl, g1⟩
    have hX1 := hX.g g1
    have gW1 := gX.trans g1
    have x0 : w1.cell? ⟨w.heap.size, 0, none⟩ = some (.int .i64 T) := hX1.cell 0
    have x1 : w1.cell? ⟨w.heap.size, 1, none⟩ = some (.int .i64 U) := hX1.cell 1
    clear hX gX g1
    go_wp2_with fail
    refine (rburst_any T U _).mono ?_
    rintro e w2 ⟨rfl, g2⟩
    generalize burstI T U = n at *
    generalize burstE T U = m at *
    have hX2 := hX1.g g2
    have gW2 := gW1.trans g2
    clear x0 x1 hX1 gW1 g2
    have x0 : w2.cell? ⟨w.heap.size, 0, none⟩ = some (.int .i64 T) := hX2.cell 0
    have x1 : w2.cell? ⟨w.heap.size, 1, none⟩ = some (.int .i64 U) := hX2.cell 1
    go_wp2_with fail
    refine (new_no T U HV.out _).mono ?_
    rintro e w3 ⟨rfl, g3⟩
    have hX3 := hX2.g g3
    have gW3 := gW2.trans g3
    clear x0 x1 hX2 gW2 g3
    have x0 : w3.cell? ⟨w.heap.size, 0, none⟩ = some (.int .i64 T) := hX3.cell 0
    have x1 : w3.cell? ⟨w.heap.size, 1, none⟩ = some (.int .i64 U) := hX3.cell 1
    go_wp2_with fail
    refine (rnew_no T U HV.out _).mono ?_
    rintro e w4 ⟨rfl, g4⟩
    go_wp2_with fail
    refine (limit_nil _).mono ?_
    rintro e w5 ⟨rfl, g5⟩
    go_wp2_with fail
    refine (rlimit_nil _).mono ?_
    rintro e w6 ⟨rfl, g6⟩
    go_wp2_with fail
    refine (works_any _).mono ?_
    rintro e w7 ⟨rfl, g7⟩
    go_wp2_with fail
    go_ret
    exact ⟨rfl, (((gW3.trans g4).trans g5).trans g6).trans g7⟩
set_option maxHeartbeats 2000000 in
theorem contract (H : Type) (enc : TypeId × Value → H) (W : World) (base : Nat) (args : Array Value) (ds gs : List (DataW H)) (before : List MemPlace)
    (hval : ∀ (j : Nat) t v, Try.f6.params[j]? = some t → args[j]? = some v → Value.okWide Try.prog W .any base t v)
    (hW : DataW.Whole enc Try.prog Try.f6.params.toList Rows.gcraBurstsSpec.vars false W args.toList ds gs before) :
    Calls Try.prog 6 args W fun e W' => ∃ v, e = .returned v ∧ Rows.gcraBurstsSpec.post enc Try.prog Try.f6 false true false false W args v W' := by
  have hW' := hW
  obtain ⟨p, q, hA0, hV, rfl, hfz, hnd⟩ := hW
  have hA : DataW.TrodAll enc Try.prog W 0 (fun _ => true) true Try.f6.params.toList args.toList ds p := hA0
  rw [Try.params6] at hA hval
  obtain ⟨v0, vs0, d0, ds0, p0, q0, hargs, rfl, rfl, h0, r0⟩ := trodAll_cons hA
  obtain ⟨rfl, rfl, rfl⟩ := trodAll_nil r0
  obtain rfl : args = #[v0] := by cases args; simp_all
  obtain ⟨a0, b0, rfl⟩ := open_limit (hval 0 24 v0 rfl rfl) h0
  refine (walk (w := W) a0 b0).mono fun e W' ⟨he, hg⟩ => ?_
  subst he
  exact ⟨_, rfl, law_post laidOut_ (by intro t ht; rw [Try.params6] at ht; simp at ht; rcases ht with rfl <;> exact ⟨by kernel_rfl, by decide +kernel⟩) hW' rfl rfl (by kernel_rfl) Try.underlying4 hg⟩
set_option maxRecDepth 100000 in
theorem lifted (os : Os) (started : os.Started) (H : Type) (enc : TypeId × Value → H) :
    ReturnsInHanded {} Try.checked os 6 .any (Rows.gcraBurstsSpec.pre6 enc Try.prog Try.f6 Rows.gcraBurstsRow.domain false) (Rows.gcraBurstsSpec.post enc Try.prog Try.f6 false true false false) := by
  refine returnsInHanded_of_change (C := Try.checked) own_ started (by kernel_rfl) Try.func6
    (ChangeSpec.witness6 (enc := enc) (C := Try.checked) false ⟨#[], #[.agg #[.int .i64 0, .int .i64 0]], []⟩ 8 (by kernel_rfl) (by kernel_rfl) (by kernel_rfl) (by kernel_rfl)) ?_
  intro W base args ds gs before hval hW _ _
  exact contract H enc W base args ds gs before hval hW
theorem said : Rows.GcraBurstsSaid :=
  OpenClaim.holds_of_wide 6 Try.f6 rfl rfl rfl rfl rfl rfl rfl ⟨rfl, rfl, rfl, rfl, rfl⟩ rfl rfl rfl rfl rfl (by kernel_rfl) Try.func6 (by kernel_rfl)
    (of_decide_eq_true (by kernel_rfl)) (by unfold Func.isWrapper; first | (rw [if_pos (by decide +kernel)]; kernel_rfl) | (rw [if_neg (by decide +kernel)]; exact ⟨rfl, rfl⟩))
    (fun os started H enc _ => lifted os started H enc)
#print axioms said
end Go.Proofs.Ytgookddningjpaa.lawGcraBursts
