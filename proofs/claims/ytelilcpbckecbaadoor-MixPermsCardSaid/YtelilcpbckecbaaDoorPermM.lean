/-
  Permutations, in plain Lean: what the loop of Perm computes.
-/
import Derived.Test.YtelilcpbckecbaaDoorMixD
import Derived.Test.YtelilcpbckecbaaDoorLst
set_option linter.unusedVariables false
set_option linter.unusedSimpArgs false
namespace Go.Proofs.YtelilcpbckecbaaDoor
open Go.RowKit

/-- two elements change places -/
def swapL (l : List Int) (i j : Nat) : List Int := (l.set i (l[j]?.getD 0)).set j (l[i]?.getD 0)
theorem swapL_len (l : List Int) (i j : Nat) : (swapL l i j).length = l.length := by simp [swapL]
/-- 0, 1, 2 up to k - 1, then zeros up to n -/
def cntTo (n k : Nat) : List Int := (List.range n).map fun i => if i < k then (i : Int) else 0
theorem cntTo_len (n k : Nat) : (cntTo n k).length = n := by simp [cntTo]
theorem cntTo_succ (n k : Nat) (h : k < n) : (cntTo n k).set k (k : Int) = cntTo n (k + 1) := by
  apply List.ext_getElem?
  intro i
  unfold cntTo
  rw [List.getElem?_set]
  by_cases hi : k = i
  · subst hi; simp [h]
  · simp only [hi, if_false, List.getElem?_map, List.getElem?_range]
    by_cases hin : i < n
    · simp [List.getElem?_range hin]
      by_cases hlt : i < k
      · rw [if_pos hlt, if_pos (by omega)]
      · rw [if_neg hlt, if_neg (by omega)]
    · simp [List.getElem?_eq_none, hin]
/-- the place that the round with the number t exchanges with -/
def jAt (s : Int) (n t : Nat) : Nat := (hiI (atI s t) ((n - 1 - t : Nat) + 1 : Int)).toNat
/-- the list behind t rounds -/
def permTo (s : Int) (n : Nat) : Nat → List Int
  | 0 => cntTo n n
  | t + 1 => swapL (permTo s n t) (n - 1 - t) (jAt s n t)
theorem permTo_len (s : Int) (n t : Nat) : (permTo s n t).length = n := by
  induction t with
  | zero => exact cntTo_len _ _
  | succ t ih => rw [permTo, swapL_len, ih]
theorem hiI_bd (x y : Int) (hx0 : 0 ≤ x) (hx : x < 18446744073709551616) (hy : 0 < y) : 0 ≤ hiI x y ∧ hiI x y < y := by
  unfold hiI
  constructor
  · exact Int.ediv_nonneg (Int.mul_nonneg hx0 (by omega)) (by decide)
  · apply Int.ediv_lt_of_lt_mul (by decide)
    rw [Int.mul_comm]
    exact Int.mul_lt_mul_of_pos_left hx hy
theorem jAt_lt (s : Int) (n t : Nat) (h : t < n) : jAt s n t ≤ n - 1 - t := by
  have := hiI_bd (atI s t) ((n - 1 - t : Nat) + 1 : Int) (atI_bd _ _).1 (atI_bd _ _).2 (by omega)
  unfold jAt; omega
/-- what a source holds at a place -/
def srcAt (s : Int) (t : Nat) : Int := IntKind.u64.wrap (s + t * 11400714819323198485)
theorem srcAt_next (s : Int) (t : Nat) : IntKind.u64.wrap (srcAt s t + 11400714819323198485) = srcAt s (t + 1) := by
  unfold srcAt; simp only [IntKind.wrap_u64]; omega
theorem srcAt_mix (s : Int) (t : Nat) : mixI (srcAt s (t + 1)) = atI s t := by
  unfold atI srcAt; congr 1; simp only [IntKind.wrap_u64]; omega
theorem srcAt_zero (s : Int) (h0 : 0 ≤ s) (h1 : s < 18446744073709551616) : srcAt s 0 = s := by
  unfold srcAt; rw [IntKind.wrap_u64]; omega
theorem vI_set (k : IntKind) (l : List Int) (i : Nat) (x : Int) : (vI k l).toArray.setIfInBounds i (.int k x) = (vI k (l.set i x)).toArray := by
  simp [vI, List.map_set]
theorem vI_rep (k : IntKind) (n : Nat) : Array.replicate n (Value.int k 0) = (vI k (cntTo n 0)).toArray := by
  apply Array.ext'
  simp [vI, cntTo]
  apply List.ext_getElem?
  intro i
  by_cases h : i < n <;> simp [h]
theorem cellI {w : World} {b : Nat} {t : TypeId} {k : IntKind} {l : List Int} (h : Blk w b t (vI k l).toArray) {i : Nat} (hi : i < l.length) : w.cell? ⟨b, i, none⟩ = some (.int k (l[i]?.getD 0)) := by
  rw [h.cell]; simp only [List.getElem?_toArray]; exact vI_get hi
end Go.Proofs.YtelilcpbckecbaaDoor
