/-
  The times that steps returns, the limits that small returns: facts; a limiter that has taken the first k of them.
-/
import Derived.Test.YtgookddningjpaaGcS
set_option linter.unusedVariables false
set_option linter.unusedSimpArgs false
namespace Go.Proofs.Ytgookddningjpaa
open Go.RowKit

theorem small_valid {t u : Int} (h0 : 0 ≤ t) (u0 : 0 ≤ u) (u1 : u ≤ 255) : validL (smT t) (smU t u) := by
  unfold validL smT smU
  split <;> omega
def StepsOk (ts : List Int) : Prop := ts.length ≤ 60 ∧ (∀ k, k < ts.length → 1000 ≤ at_ ts k ∧ at_ ts k ≤ 4840) ∧ (∀ k, k + 1 < ts.length → at_ ts k ≤ at_ ts (k + 1))
theorem stepsOk (l : List Int) : StepsOk (upA l 1000 0 64 (min l.length 60)) := by
  have hm : min l.length 60 ≤ 60 := Nat.min_le_right _ _
  generalize min l.length 60 = m at hm
  refine ⟨by rw [upA_len]; exact hm, fun k hk => ?_, fun k hk => ?_⟩
  · rw [upA_len] at hk
    rw [upA_at l 1000 0 64 hk]
    have := accA_bound l 1000 0 64 (by omega) (by omega) (by omega) (k + 1)
    omega
  · rw [upA_len] at hk
    rw [upA_at l 1000 0 64 hk, upA_at l 1000 0 64 (by omega : k < m)]
    have := Int.emod_nonneg (at_ l (k + 1)) (by omega : (64 : Int) ≠ 0)
    rw [show accA l 1000 0 64 (k + 1 + 1) = accA l 1000 0 64 (k + 1) + (0 + at_ l (k + 1) % 64) from rfl]
    omega
theorem StepsOk.isT {ts : List Int} (h : StepsOk ts) (k : Nat) (hk : k < ts.length) : isT (at_ ts k) := by
  have := h.2.1 k hk
  exact ⟨by omega, by omega⟩
theorem sorted_le {l : List Int} {n : Nat} (ha : ∀ k, k + 1 < n → at_ l k ≤ at_ l (k + 1)) : ∀ k, k ≤ n → sortedTo l k = true
  | 0, _ => rfl
  | k + 1, h => by
    unfold sortedTo
    rw [sorted_le ha k (by omega), Bool.true_and]
    cases k with
    | zero => simp
    | succ j =>
      have := ha j (by omega)
      simp
      omega
theorem fits_some {ts : List Int} {T Tau : Int} (hv : validL T Tau) (h : StepsOk ts) {k : Nat} (hf : firstE (isEarly ts T Tau) ts.length = some k) : fitsAll ts T Tau = ((k : Int), true, 0) := by
  unfold fitsAll
  rw [if_neg (by simpa using hv), if_neg (by have := h.1; omega), if_neg (by simpa using h.isT), if_neg (by rw [sorted_le h.2.2 _ (Nat.le_refl _)]; simp), hf]
theorem fits_none {ts : List Int} {T Tau : Int} (hv : validL T Tau) (h : StepsOk ts) (hf : firstE (isEarly ts T Tau) ts.length = none) : fitsAll ts T Tau = (0, false, 0) := by
  unfold fitsAll
  rw [if_neg (by simpa using hv), if_neg (by have := h.1; omega), if_neg (by simpa using h.isT), if_neg (by rw [sorted_le h.2.2 _ (Nat.le_refl _)]; simp), hf]
theorem last_le {ts : List Int} (h : StepsOk ts) {k : Nat} (hk : k < ts.length) : ¬ (decide (0 < k) = true ∧ at_ ts k < lastTo ts k) := by
  rintro ⟨h1, h2⟩
  cases k with
  | zero => simp at h1
  | succ j =>
    have := h.2.2 j hk
    have h2 : at_ ts (j + 1) < at_ ts j := h2
    omega
theorem check_early {ts : List Int} {T Tau : Int} (h : StepsOk ts) {k : Nat} (hk : k < ts.length) (he : isEarly ts T Tau k = true) : checkE (decide (0 < k)) (tatTo ts T k) (lastTo ts k) T Tau (at_ ts k) = 9 := by
  unfold checkE
  rw [if_neg (by simpa using h.isT k hk), if_neg (last_le h hk)]
  unfold isEarly at he
  rw [if_pos he]
theorem check_fine {ts : List Int} {T Tau : Int} (h : StepsOk ts) {k : Nat} (hk : k < ts.length) (he : isEarly ts T Tau k = false) : checkE (decide (0 < k)) (tatTo ts T k) (lastTo ts k) T Tau (at_ ts k) = 0 := by
  unfold checkE
  rw [if_neg (by simpa using h.isT k hk), if_neg (last_le h hk)]
  unfold isEarly at he
  rw [if_neg (by rw [he]; simp)]
theorem firstE_some' {f : Nat → Bool} {n k : Nat} (h : firstE f n = some k) : k < n ∧ f k = true ∧ ∀ j, j < k → f j = false := by
  unfold firstE at h
  rw [List.find?_range_eq_some] at h
  obtain ⟨h1, h2, h3⟩ := h
  exact ⟨by simpa using h2, h1, fun j hj => by simpa using h3 j hj⟩
theorem firstE_none' {f : Nat → Bool} {n : Nat} (h : firstE f n = none) : ∀ j, j < n → f j = false := by
  unfold firstE at h
  intro j hj
  have := List.find?_eq_none.1 h j (by simpa using hj)
  simpa using this
end Go.Proofs.Ytgookddningjpaa
