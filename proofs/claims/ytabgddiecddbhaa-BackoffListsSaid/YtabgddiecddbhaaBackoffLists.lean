/-
  BackoffLists: all waits, their sum, and where they become the greatest one are as the document says.
-/
import Derived.Test.YtabgddiecddbhaaTieR
import Derived.Test.YtabgddiecddbhaaBkX
set_option linter.unusedVariables false
set_option linter.unusedSimpArgs false
namespace Go.Proofs.Ytabgddiecddbhaa.lawBackoffLists
open Go.ChangeShapes Go.WideShapes Go.ChangeAt Go.RowKit

set_option maxRecDepth 4000 in
set_option maxHeartbeats 4000000 in
theorem walk {w : World} (M B C J : Int) :
    Calls Try.prog 4 #[.agg #[.int .i64 M, .int .i64 B, .int .i64 C, .int .i64 J]] w fun e w' => e = .returned (.bool true) ∧ G w w' := by
  go_enter Try.func4, Try.ntmps4
  have hX := Blk.new w 23 #[.int .i64 M, .int .i64 B, .int .i64 C, .int .i64 J]
  have gX : G w (w.alloc (.cells #[.int .i64 M, .int .i64 B, .int .i64 C, .int .i64 J] 23)) := (by repeat (first | exact G.refl _ | refine G.alloc ?_ _ | refine G.drewN ?_ _ | refine G.drew ?_ | refine G.trans ?_ (by assumption)))
  go_wp2_with fail
  refine (list_any M B C J _).mono ?_
  rintro e v1 ⟨v, rfl, own, g⟩
  have hR1 := Rd.of_own own
  clear own
  have hX := hX.g g
  have gX := gX.trans g
  clear g
  have x0 : v1.cell? ⟨w.heap.size, 0, none⟩ = some (.int .i64 M) := hX.cell 0
  have x1 : v1.cell? ⟨w.heap.size, 1, none⟩ = some (.int .i64 B) := hX.cell 1
  have x2 : v1.cell? ⟨w.heap.size, 2, none⟩ = some (.int .i64 C) := hX.cell 2
  have x3 : v1.cell? ⟨w.heap.size, 3, none⟩ = some (.int .i64 J) := hX.cell 3
  go_wp2_with fail
  refine (rlist_any M B C J _).mono ?_
  rintro e v2 ⟨v', rfl, own, g⟩
  have hR2 := Rd.of_own own
  have hR1 := hR1.g g
  clear own x0 x1 x2 x3
  have hX := hX.g g
  have gX := gX.trans g
  clear g
  have x0 : v2.cell? ⟨w.heap.size, 0, none⟩ = some (.int .i64 M) := hX.cell 0
  have x1 : v2.cell? ⟨w.heap.size, 1, none⟩ = some (.int .i64 B) := hX.cell 1
  have x2 : v2.cell? ⟨w.heap.size, 2, none⟩ = some (.int .i64 C) := hX.cell 2
  have x3 : v2.cell? ⟨w.heap.size, 3, none⟩ = some (.int .i64 J) := hX.cell 3
  have HL := Lib.hid (waits_len M B C J)
  go_wp2_with fail
  refine (total_any M B C J _).mono ?_
  rintro e v3 ⟨rfl, g⟩
  have hR1 := hR1.g g
  have hR2 := hR2.g g
  clear x0 x1 x2 x3
  have hX := hX.g g
  have gX := gX.trans g
  clear g
  have x0 : v3.cell? ⟨w.heap.size, 0, none⟩ = some (.int .i64 M) := hX.cell 0
  have x1 : v3.cell? ⟨w.heap.size, 1, none⟩ = some (.int .i64 B) := hX.cell 1
  have x2 : v3.cell? ⟨w.heap.size, 2, none⟩ = some (.int .i64 C) := hX.cell 2
  have x3 : v3.cell? ⟨w.heap.size, 3, none⟩ = some (.int .i64 J) := hX.cell 3
  go_wp2_with fail
  refine (rtotal_any M B C J _).mono ?_
  rintro e v4 ⟨rfl, g⟩
  have hR1 := hR1.g g
  have hR2 := hR2.g g
  clear x0 x1 x2 x3
  have hX := hX.g g
  have gX := gX.trans g
  clear g
  have x0 : v4.cell? ⟨w.heap.size, 0, none⟩ = some (.int .i64 M) := hX.cell 0
  have x1 : v4.cell? ⟨w.heap.size, 1, none⟩ = some (.int .i64 B) := hX.cell 1
  have x2 : v4.cell? ⟨w.heap.size, 2, none⟩ = some (.int .i64 C) := hX.cell 2
  have x3 : v4.cell? ⟨w.heap.size, 3, none⟩ = some (.int .i64 J) := hX.cell 3
  generalize chkE M B C J = q at *
  generalize totI M B C J = n at *
  go_wp2_with fail
  refine (same_yes _ (by have := HL.out; omega) v v' _ hR1 hR2).mono ?_
  rintro e v5 ⟨rfl, g⟩
  have hX := hX.g g
  have gX := gX.trans g
  clear g x0 x1 x2 x3 hR1 hR2
  have x0 : v5.cell? ⟨w.heap.size, 0, none⟩ = some (.int .i64 M) := hX.cell 0
  have x1 : v5.cell? ⟨w.heap.size, 1, none⟩ = some (.int .i64 B) := hX.cell 1
  have x2 : v5.cell? ⟨w.heap.size, 2, none⟩ = some (.int .i64 C) := hX.cell 2
  have x3 : v5.cell? ⟨w.heap.size, 3, none⟩ = some (.int .i64 J) := hX.cell 3
  go_wp2_with fail
  refine (reaches_any M B C J _).mono ?_
  rintro e v6 ⟨rfl, g⟩
  clear x0 x1 x2 x3
  have hX := hX.g g
  have gX := gX.trans g
  clear g
  have x0 : v6.cell? ⟨w.heap.size, 0, none⟩ = some (.int .i64 M) := hX.cell 0
  have x1 : v6.cell? ⟨w.heap.size, 1, none⟩ = some (.int .i64 B) := hX.cell 1
  have x2 : v6.cell? ⟨w.heap.size, 2, none⟩ = some (.int .i64 C) := hX.cell 2
  have x3 : v6.cell? ⟨w.heap.size, 3, none⟩ = some (.int .i64 J) := hX.cell 3
  go_wp2_with fail
  refine (rreaches_any M B C J _).mono ?_
  rintro e v7 ⟨rfl, g⟩
  clear x0 x1 x2 x3
  have hX := hX.g g
  have gX := gX.trans g
  clear g
  have x0 : v7.cell? ⟨w.heap.size, 0, none⟩ = some (.int .i64 M) := hX.cell 0
  have x1 : v7.cell? ⟨w.heap.size, 1, none⟩ = some (.int .i64 B) := hX.cell 1
  have x2 : v7.cell? ⟨w.heap.size, 2, none⟩ = some (.int .i64 C) := hX.cell 2
  have x3 : v7.cell? ⟨w.heap.size, 3, none⟩ = some (.int .i64 J) := hX.cell 3
  go_wp2_with fail
  refine (longest_any M B C J _).mono ?_
  rintro e v8 ⟨rfl, g⟩
  clear x0 x1 x2 x3
  have hX := hX.g g
  have gX := gX.trans g
  clear g
  have x0 : v8.cell? ⟨w.heap.size, 0, none⟩ = some (.int .i64 M) := hX.cell 0
  have x1 : v8.cell? ⟨w.heap.size, 1, none⟩ = some (.int .i64 B) := hX.cell 1
  have x2 : v8.cell? ⟨w.heap.size, 2, none⟩ = some (.int .i64 C) := hX.cell 2
  have x3 : v8.cell? ⟨w.heap.size, 3, none⟩ = some (.int .i64 J) := hX.cell 3
  go_wp2_with fail
  refine (rlongest_any M B C J _).mono ?_
  rintro e v9 ⟨rfl, g⟩
  clear x0 x1 x2 x3
  have hX := hX.g g
  have gX := gX.trans g
  clear g
  have x0 : v9.cell? ⟨w.heap.size, 0, none⟩ = some (.int .i64 M) := hX.cell 0
  have x1 : v9.cell? ⟨w.heap.size, 1, none⟩ = some (.int .i64 B) := hX.cell 1
  have x2 : v9.cell? ⟨w.heap.size, 2, none⟩ = some (.int .i64 C) := hX.cell 2
  have x3 : v9.cell? ⟨w.heap.size, 3, none⟩ = some (.int .i64 J) := hX.cell 3
  generalize chkE M B C J = q2 at *
  generalize reachI M B C J = n1 at *
  generalize reachB M B C J = n2 at *
  generalize longI M B C J = n3 at *
  go_wp2_with fail
  refine (works_any _).mono ?_
  rintro e v10 ⟨rfl, g⟩
  go_wp2_with fail
  go_ret
  exact ⟨rfl, gX.trans g⟩
set_option maxHeartbeats 2000000 in
theorem contract (H : Type) (enc : TypeId × Value → H) (W : World) (base : Nat) (args : Array Value) (ds gs : List (DataW H)) (before : List MemPlace)
    (hval : ∀ (j : Nat) t v, Try.f4.params[j]? = some t → args[j]? = some v → Value.okWide Try.prog W .any base t v)
    (hW : DataW.Whole enc Try.prog Try.f4.params.toList Rows.backoffListsSpec.vars false W args.toList ds gs before) :
    Calls Try.prog 4 args W fun e W' => ∃ v, e = .returned v ∧ Rows.backoffListsSpec.post enc Try.prog Try.f4 false true false false W args v W' := by
  have hW' := hW
  obtain ⟨p, q, hA0, hV, rfl, hfz, hnd⟩ := hW
  have hA : DataW.TrodAll enc Try.prog W 0 (fun _ => true) true Try.f4.params.toList args.toList ds p := hA0
  rw [Try.params4] at hA hval
  obtain ⟨v0, vs0, d0, ds0, p0, q0, hargs, rfl, rfl, h0, r0⟩ := trodAll_cons hA
  obtain ⟨rfl, rfl, rfl⟩ := trodAll_nil r0
  obtain rfl : args = #[v0] := by cases args; simp_all
  obtain ⟨a0, b0, c0, e0, rfl⟩ := open_retry (hval 0 23 v0 rfl rfl) h0
  refine (walk (w := W) a0 b0 c0 e0).mono fun e W' ⟨he, hg⟩ => ?_
  subst he
  exact ⟨_, rfl, law_post laidOut_ (by
    intro t ht
    rw [Try.params4] at ht
    simp at ht
    have ht2 : t = 23 := by omega
    rcases ht2 with rfl <;> exact ⟨by kernel_rfl, by decide +kernel⟩) hW' rfl rfl (by kernel_rfl) Try.underlying4 hg⟩
set_option maxRecDepth 100000 in
theorem lifted (os : Os) (started : os.Started) (H : Type) (enc : TypeId × Value → H) :
    ReturnsInHanded {} Try.checked os 4 .any (Rows.backoffListsSpec.pre6 enc Try.prog Try.f4 Rows.backoffListsRow.domain false) (Rows.backoffListsSpec.post enc Try.prog Try.f4 false true false false) := by
  refine returnsInHanded_of_change (C := Try.checked) own_ started (by kernel_rfl) Try.func4
    (ChangeSpec.witness6 (enc := enc) (C := Try.checked) false ⟨#[], #[.agg #[.int .i64 0, .int .i64 0, .int .i64 0, .int .i64 0]], []⟩ 8 (by kernel_rfl) (by kernel_rfl) (by kernel_rfl) (by kernel_rfl)) ?_
  intro W base args ds gs before hval hW _ _
  exact contract H enc W base args ds gs before hval hW
theorem said : Rows.BackoffListsSaid :=
  OpenClaim.holds_of_wide 4 Try.f4 rfl rfl rfl rfl rfl rfl rfl ⟨rfl, rfl, rfl, rfl, rfl⟩ rfl rfl rfl rfl rfl (by kernel_rfl) Try.func4 (by kernel_rfl)
    (of_decide_eq_true (by kernel_rfl)) (by unfold Func.isWrapper; first | (rw [if_pos (by decide +kernel)]; kernel_rfl) | (rw [if_neg (by decide +kernel)]; exact ⟨rfl, rfl⟩))
    (fun os started H enc _ => lifted os started H enc)
#print axioms said
end Go.Proofs.Ytabgddiecddbhaa.lawBackoffLists
