/-
  Permutations, in plain Lean: each number once; exchanging back leads to the list 0, 1, 2 and so on.
-/
import Derived.Test.YtelilcpbckecbaaDoorPermM
set_option linter.unusedVariables false
set_option linter.unusedSimpArgs false
namespace Go.Proofs.YtelilcpbckecbaaDoor
open Go.RowKit

def at_ (l : List Int) (k : Nat) : Int := l[k]?.getD 0
theorem at_set (l : List Int) (i : Nat) (x : Int) (k : Nat) (hi : i < l.length) : at_ (l.set i x) k = if k = i then x else at_ l k := by
  unfold at_
  rw [List.getElem?_set]
  by_cases h : i = k
  · subst h; simp [hi]
  · rw [if_neg h, if_neg (fun e => h e.symm)]
theorem at_swap (l : List Int) (i j k : Nat) (hi : i < l.length) (hj : j < l.length) : at_ (swapL l i j) k = if k = j then at_ l i else if k = i then at_ l j else at_ l k := by
  unfold swapL
  rw [at_set _ _ _ _ (by simpa using hj), at_set _ _ _ _ hi]; rfl
theorem ext_at {l m : List Int} (hl : l.length = m.length) (h : ∀ k, k < l.length → at_ l k = at_ m k) : l = m := by
  apply List.ext_getElem hl
  intro k h1 h2
  have := h k h1
  unfold at_ at this
  simpa [h1, h2] using this
theorem swap_swap (l : List Int) (i j : Nat) (hi : i < l.length) (hj : j < l.length) : swapL (swapL l i j) i j = l := by
  refine ext_at (by rw [swapL_len, swapL_len]) fun k hk => ?_
  rw [swapL_len, swapL_len] at hk
  rw [at_swap _ _ _ _ (by rw [swapL_len]; exact hi) (by rw [swapL_len]; exact hj), at_swap _ _ _ _ hi hj, at_swap _ _ _ _ hi hj, at_swap _ _ _ _ hi hj]
  by_cases h1 : k = j
  · subst h1
    by_cases h2 : i = k <;> simp [h2]
  · by_cases h2 : k = i
    · subst h2; simp [h1]
    · simp [h1, h2]
/-- each number from 0 to n - 1 once -/
def Once (n : Nat) (l : List Int) : Prop := l.length = n ∧ (∀ k, k < n → 0 ≤ at_ l k ∧ at_ l k < n) ∧ ∀ k m, k < n → m < n → at_ l k = at_ l m → k = m
def trans_ (i j k : Nat) : Nat := if k = j then i else if k = i then j else k
theorem at_swap' (l : List Int) (i j k : Nat) (hi : i < l.length) (hj : j < l.length) : at_ (swapL l i j) k = at_ l (trans_ i j k) := by
  rw [at_swap l i j k hi hj]; unfold trans_; split
  · rfl
  · split <;> rfl
theorem once_swap {n : Nat} {l : List Int} (h : Once n l) (i j : Nat) (hi : i < n) (hj : j < n) : Once n (swapL l i j) := by
  obtain ⟨hl, hr, hd⟩ := h
  have e := fun k => at_swap' l i j k (by omega) (by omega)
  have hb : ∀ k, k < n → trans_ i j k < n := fun k hk => by unfold trans_; split <;> (try split) <;> omega
  refine ⟨by rw [swapL_len]; exact hl, fun k hk => by rw [e]; exact hr _ (hb k hk), fun k m hk hm hkm => ?_⟩
  rw [e, e] at hkm
  have := hd _ _ (hb k hk) (hb m hm) hkm
  unfold trans_ at this
  split at this <;> split at this <;> (try split at this) <;> (try split at this) <;> omega
theorem at_cnt (n k : Nat) (h : k < n) : at_ (cntTo n n) k = k := by
  unfold at_ cntTo; simp [h]
theorem once_perm (s : Int) (n t : Nat) (ht : t < n ∨ t = 0) : Once n (permTo s n t) := by
  induction t with
  | zero => exact ⟨cntTo_len _ _, fun k hk => by rw [permTo, at_cnt n k hk]; omega, fun k m hk hm h => by rw [permTo, at_cnt n k hk, at_cnt n m hm] at h; omega⟩
  | succ t ih =>
    have hj := jAt_lt s n t (by omega)
    exact once_swap (ih (by omega)) _ _ (by omega) (by omega)
theorem perm_back (s : Int) (n t : Nat) (ht : t + 1 < n) : swapL (permTo s n (t + 1)) (n - 1 - t) (jAt s n t) = permTo s n t := by
  have hj := jAt_lt s n t (by omega)
  rw [permTo]
  exact swap_swap _ _ _ (by rw [permTo_len]; omega) (by rw [permTo_len]; omega)
/-- which numbers have been seen in the first k places -/
def seenTo (l : List Int) (n k : Nat) : List Bool := (List.range n).map fun (v : Nat) => (List.range k).any fun i => at_ l i == (v : Int)
theorem seenTo_len (l : List Int) (n k : Nat) : (seenTo l n k).length = n := by simp [seenTo]
theorem seenTo_get (l : List Int) (n k v : Nat) (hv : v < n) : (seenTo l n k)[v]?.getD false = (List.range k).any fun i => at_ l i == (v : Int) := by
  unfold seenTo; simp [hv]
theorem seen_no {n : Nat} {l : List Int} (h : Once n l) (k v : Nat) (hk : k < n) (hv : at_ l k = v) : (seenTo l n k)[v]?.getD false = false := by
  have := h.2.1 k hk
  rw [seenTo_get _ _ _ _ (by omega), List.any_eq_false]
  intro i hi
  rw [List.mem_range] at hi
  intro he
  have := h.2.2 i k (by omega) hk (by rw [hv]; simpa using he)
  omega
theorem seenTo_at (l : List Int) (n k u : Nat) (hu : u < n) : (seenTo l n k)[u]? = some ((List.range k).any fun i => at_ l i == (u : Int)) := by
  unfold seenTo; simp [hu]
theorem any_succ (k : Nat) (f : Nat → Bool) : (List.range (k + 1)).any f = ((List.range k).any f || f k) := by
  rw [List.range_succ, List.any_append]; simp
theorem seen_set {n : Nat} {l : List Int} (h : Once n l) (k v : Nat) (hk : k < n) (hv : at_ l k = v) : (seenTo l n k).set v true = seenTo l n (k + 1) := by
  have hb := h.2.1 k hk
  apply List.ext_getElem?
  intro u
  rw [List.getElem?_set, seenTo_len]
  by_cases hu : u < n
  · rw [seenTo_at _ _ _ _ hu, seenTo_at _ _ _ _ hu, any_succ]
    by_cases e : v = u
    · subst e; simp [hv, hu]
    · rw [if_neg e]
      have : (at_ l k == (u : Int)) = false := by rw [hv]; simp; omega
      simp [this]
  · have h1 : (seenTo l n k)[u]? = none := List.getElem?_eq_none (by rw [seenTo_len]; omega)
    have h2 : (seenTo l n (k + 1))[u]? = none := List.getElem?_eq_none (by rw [seenTo_len]; omega)
    rw [h1, h2, if_neg (by omega)]
def vB (l : List Bool) : List Value := l.map Value.bool
theorem vB_set (l : List Bool) (i : Nat) (x : Bool) : (vB l).toArray.setIfInBounds i (.bool x) = (vB (l.set i x)).toArray := by simp [vB, List.map_set]
theorem cellB {w : World} {b : Nat} {t : TypeId} {l : List Bool} (h : Blk w b t (vB l).toArray) {i : Nat} (hi : i < l.length) : w.cell? ⟨b, i, none⟩ = some (.bool (l[i]?.getD false)) := by
  rw [h.cell]; simp [vB, hi]
theorem seen_zero (l : List Int) (n : Nat) : Array.replicate n (Value.bool false) = (vB (seenTo l n 0)).toArray := by
  apply Array.ext'
  simp [vB, seenTo]
  apply List.ext_getElem?
  intro i
  by_cases h : i < n <;> simp [h]
end Go.Proofs.YtelilcpbckecbaaDoor
