/-
  BackoffWaits: whether a rule is valid, and the wait after an attempt, are as the document says.
-/
import Derived.Test.YtabgddiecddbhaaTieR
import Derived.Test.YtabgddiecddbhaaBkX
import Derived.Deep.RegionHeld3
set_option linter.unusedVariables false
set_option linter.unusedSimpArgs false
namespace Go.Proofs.Ytabgddiecddbhaa.lawBackoffWaits
open Go.ChangeShapes Go.WideShapes Go.ChangeAt Go.RowKit

set_option maxRecDepth 4000 in
set_option maxHeartbeats 4000000 in
theorem walk {w : World} (M B C J : Int) (k : Int) (k0 : -9223372036854775808 ≤ k) (k1 : k ≤ 9223372036854775807) :
    Calls Try.prog 3 #[.agg #[.int .i64 M, .int .i64 B, .int .i64 C, .int .i64 J], .int .i64 k] w fun e w' => e = .returned (.bool true) ∧ G w w' := by
  go_enter Try.func3, Try.ntmps3
  have hX := Blk.new w 23 #[.int .i64 M, .int .i64 B, .int .i64 C, .int .i64 J]
  have gX : G w (w.alloc (.cells #[.int .i64 M, .int .i64 B, .int .i64 C, .int .i64 J] 23)) := (by repeat (first | exact G.refl _ | refine G.alloc ?_ _ | refine G.drewN ?_ _ | refine G.drew ?_ | refine G.trans ?_ (by assumption)))
  go_wp2_with fail
  refine (wait_any M B C J k _).mono ?_
  rintro e v1 ⟨rfl, g⟩
  have hX := hX.g g
  have gX := gX.trans g
  clear g
  have x0 : v1.cell? ⟨w.heap.size, 0, none⟩ = some (.int .i64 M) := hX.cell 0
  have x1 : v1.cell? ⟨w.heap.size, 1, none⟩ = some (.int .i64 B) := hX.cell 1
  have x2 : v1.cell? ⟨w.heap.size, 2, none⟩ = some (.int .i64 C) := hX.cell 2
  have x3 : v1.cell? ⟨w.heap.size, 3, none⟩ = some (.int .i64 J) := hX.cell 3
  go_wp2_with fail
  refine (rwait_any M B C J k _).mono ?_
  rintro e v2 ⟨rfl, g⟩
  clear x0 x1 x2 x3
  have hX := hX.g g
  have gX := gX.trans g
  clear g
  have x0 : v2.cell? ⟨w.heap.size, 0, none⟩ = some (.int .i64 M) := hX.cell 0
  have x1 : v2.cell? ⟨w.heap.size, 1, none⟩ = some (.int .i64 B) := hX.cell 1
  have x2 : v2.cell? ⟨w.heap.size, 2, none⟩ = some (.int .i64 C) := hX.cell 2
  have x3 : v2.cell? ⟨w.heap.size, 3, none⟩ = some (.int .i64 J) := hX.cell 3
  generalize waitI M B C J k = n at *
  generalize waitE M B C J k = m at *
  go_wp2_with fail
  go_region_held3 (fun w' => w'.cell? ⟨w.heap.size, 0, none⟩ = some (.int .i64 M) ∧ w'.cell? ⟨w.heap.size, 1, none⟩ = some (.int .i64 B) ∧ w'.cell? ⟨w.heap.size, 2, none⟩ = some (.int .i64 C) ∧ w'.cell? ⟨w.heap.size, 3, none⟩ = some (.int .i64 J)) (first | exact ⟨x0, x1, x2, x3⟩ | exact ⟨(hX.g (g3.trans (g4.trans g5))).cell 0, (hX.g (g3.trans (g4.trans g5))).cell 1, (hX.g (g3.trans (g4.trans g5))).cell 2, (hX.g (g3.trans (g4.trans g5))).cell 3⟩ | exact ⟨(hX.g (g3.trans g4)).cell 0, (hX.g (g3.trans g4)).cell 1, (hX.g (g3.trans g4)).cell 2, (hX.g (g3.trans g4)).cell 3⟩ | exact ⟨(hX.g g3).cell 0, (hX.g g3).cell 1, (hX.g g3).cell 2, (hX.g g3).cell 3⟩)
    (first | (go_at_call 14; refine (check_any M B C J _).mono ?_; rintro e v3 ⟨rfl, g3⟩; replace g3 : G v2 v3 := (G.refl v2).drew.trans g3) | (go_at_call 15; refine (rcheck_any M B C J _).mono ?_; rintro e v4 ⟨rfl, g4⟩) | (go_at_call 16; refine (works_any _).mono ?_; rintro e v5 ⟨rfl, g5⟩))
  go_wp2_with fail
  go_ret
  exact ⟨rfl, gX.trans (g3.trans (g4.trans g5))⟩
set_option maxHeartbeats 2000000 in
theorem contract (H : Type) (enc : TypeId × Value → H) (W : World) (base : Nat) (args : Array Value) (ds gs : List (DataW H)) (before : List MemPlace)
    (hval : ∀ (j : Nat) t v, Try.f3.params[j]? = some t → args[j]? = some v → Value.okWide Try.prog W .any base t v)
    (hW : DataW.Whole enc Try.prog Try.f3.params.toList Rows.backoffWaitsSpec.vars false W args.toList ds gs before) :
    Calls Try.prog 3 args W fun e W' => ∃ v, e = .returned v ∧ Rows.backoffWaitsSpec.post enc Try.prog Try.f3 false true false false W args v W' := by
  have hW' := hW
  obtain ⟨p, q, hA0, hV, rfl, hfz, hnd⟩ := hW
  have hA : DataW.TrodAll enc Try.prog W 0 (fun _ => true) true Try.f3.params.toList args.toList ds p := hA0
  rw [Try.params3] at hA hval
  obtain ⟨v0, vs0, d0, ds0, p0, q0, hargs, rfl, rfl, h0, r0⟩ := trodAll_cons hA
  obtain ⟨v1, vs1, d1, ds1, p1, q1, rfl, rfl, rfl, h1, r1⟩ := trodAll_cons r0
  obtain ⟨rfl, rfl, rfl⟩ := trodAll_nil r1
  obtain rfl : args = #[v0, v1] := by cases args; simp_all
  obtain ⟨a0, b0, c0, e0, rfl⟩ := open_retry (hval 0 23 v0 rfl rfl) h0
  obtain ⟨a1, rfl, rfl, rfl, w1⟩ := open_int Try.underlying3 (hval 1 3 v1 rfl rfl) h1
  simp [Lit.wf, IntKind.min, IntKind.max, IntKind.bits, IntKind.signed] at w1
  refine (walk (w := W) a0 b0 c0 e0 a1 (by omega) (by omega)).mono fun e W' ⟨he, hg⟩ => ?_
  subst he
  exact ⟨_, rfl, law_post laidOut_ (by
    intro t ht
    rw [Try.params3] at ht
    simp at ht
    have ht2 : t = 23 ∨ t = 3 := by omega
    rcases ht2 with rfl | rfl <;> exact ⟨by kernel_rfl, by decide +kernel⟩) hW' rfl rfl (by kernel_rfl) Try.underlying4 hg⟩
set_option maxRecDepth 100000 in
theorem lifted (os : Os) (started : os.Started) (H : Type) (enc : TypeId × Value → H) :
    ReturnsInHanded {} Try.checked os 3 .any (Rows.backoffWaitsSpec.pre6 enc Try.prog Try.f3 Rows.backoffWaitsRow.domain false) (Rows.backoffWaitsSpec.post enc Try.prog Try.f3 false true false false) := by
  refine returnsInHanded_of_change (C := Try.checked) own_ started (by kernel_rfl) Try.func3
    (ChangeSpec.witness6 (enc := enc) (C := Try.checked) false ⟨#[], #[.agg #[.int .i64 0, .int .i64 0, .int .i64 0, .int .i64 0], .int .i64 0], []⟩ 8 (by kernel_rfl) (by kernel_rfl) (by kernel_rfl) (by kernel_rfl)) ?_
  intro W base args ds gs before hval hW _ _
  exact contract H enc W base args ds gs before hval hW
theorem said : Rows.BackoffWaitsSaid :=
  OpenClaim.holds_of_wide 3 Try.f3 rfl rfl rfl rfl rfl rfl rfl ⟨rfl, rfl, rfl, rfl, rfl⟩ rfl rfl rfl rfl rfl (by kernel_rfl) Try.func3 (by kernel_rfl)
    (of_decide_eq_true (by kernel_rfl)) (by unfold Func.isWrapper; first | (rw [if_pos (by decide +kernel)]; kernel_rfl) | (rw [if_neg (by decide +kernel)]; exact ⟨rfl, rfl⟩))
    (fun os started H enc _ => lifted os started H enc)
#print axioms said
end Go.Proofs.Ytabgddiecddbhaa.lawBackoffWaits
