/-
  Package backoff: what its functions compute, in plain words; Check, in the program and in the document.
-/
import Derived.Test.YtabgddiecddbhaaLst
set_option linter.unusedVariables false
set_option linter.unusedSimpArgs false
namespace Go.Proofs.Ytabgddiecddbhaa
open Go.RowKit

/-- the rule is valid -/
def okR (M B C J : Int) : Prop := (M = 0 ∧ B = 0 ∧ C = 0 ∧ J = 0) ∨ ((1 ≤ M ∧ M ≤ 20) ∧ (1 ≤ B ∧ B ≤ C ∧ C ≤ 68719476736) ∧ (0 ≤ J ∧ J ≤ 68719476736))
instance (M B C J : Int) : Decidable (okR M B C J) := by unfold okR; exact inferInstance
def chkE (M B C J : Int) : Int := if okR M B C J then 0 else 16
/-- the wait after the attempt k + 1 -/
def wAt (B C : Int) : Nat → Int
  | 0 => B
  | k + 1 => min (wAt B C k + wAt B C k) C
theorem wAt_bound {M B C J : Int} (h : okR M B C J) (k : Nat) : 0 ≤ wAt B C k ∧ wAt B C k ≤ C ∧ C ≤ 68719476736 ∧ B ≤ wAt B C k := by
  induction k with
  | zero => unfold okR at h; simp only [wAt]; omega
  | succ k ih => unfold okR at h; simp only [wAt]; omega

set_option maxHeartbeats 3200000 in
theorem check_any (M B C J : Int) (w : World) :
    Calls Try.prog 14 #[.agg #[.int .i64 M, .int .i64 B, .int .i64 C, .int .i64 J]] w fun e w' => e = .returned (.int .i64 (chkE M B C J)) ∧ G w w' := by
  go_enter Try.func14, Try.ntmps14
  go_wp2_with fail
  all_goals (
    go_ret
    refine ⟨?_, (by repeat (first | exact G.refl _ | refine G.alloc ?_ _ | refine G.drewN ?_ _ | refine G.drew ?_ | refine G.trans ?_ (by assumption)))⟩
    unfold chkE
    first
      | (rw [if_pos (by unfold okR; omega)]; rfl)
      | (rw [if_neg (by unfold okR; omega)]; rfl))
set_option maxHeartbeats 3200000 in
theorem rcheck_any (M B C J : Int) (w : World) :
    Calls Try.prog 15 #[.agg #[.int .i64 M, .int .i64 B, .int .i64 C, .int .i64 J]] w fun e w' => e = .returned (.int .i64 (chkE M B C J)) ∧ G w w' := by
  go_enter Try.func15, Try.ntmps15
  go_wp2_with fail
  all_goals (
    go_ret
    refine ⟨?_, (by repeat (first | exact G.refl _ | refine G.alloc ?_ _ | refine G.drewN ?_ _ | refine G.drew ?_ | refine G.trans ?_ (by assumption)))⟩
    unfold chkE
    first
      | (rw [if_pos (by unfold okR; omega)]; rfl)
      | (rw [if_neg (by unfold okR; omega)]; rfl))
end Go.Proofs.Ytabgddiecddbhaa
