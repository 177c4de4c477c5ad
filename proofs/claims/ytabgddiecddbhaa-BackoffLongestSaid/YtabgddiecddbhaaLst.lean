/-
  A slice that reads as a list (Rd), nil let in; slices.Equal at equal lists.
-/
import Derived.Test.YtabgddiecddbhaaBase
set_option linter.unusedVariables false
set_option linter.unusedSimpArgs false
namespace Go.Proofs.Ytabgddiecddbhaa
open Go.RowKit

/-- The slice value v reads as the list xs (cells of one cell each). -/
def Rd (w : World) (v : Value) (xs : List Value) : Prop :=
  ∃ A c, v = .slice A xs.length c ∧ xs.length ≤ c ∧ c ≤ 9223372036854775807 ∧ (0 < xs.length → ∃ b o, A = some ⟨b, o, none⟩ ∧ ∀ j u, xs[j]? = some u → w.cell? ⟨b, o + j, none⟩ = some u)
theorem Rd.nil (w : World) : Rd w (.slice none 0 0) [] := ⟨none, 0, rfl, by simp, by omega, fun h => absurd h (by simp)⟩
theorem Rd.g {a b : World} {v : Value} {xs : List Value} (h : Rd a v xs) (g : G a b) : Rd b v xs := by
  obtain ⟨A, c, rfl, hc, hm, h2⟩ := h
  refine ⟨A, c, rfl, hc, hm, fun hn => ?_⟩
  obtain ⟨k, o, rfl, hj⟩ := h2 hn
  exact ⟨k, o, rfl, fun j u hu => g.cell (World.block_lt_of_cell? a _ (hj j u hu)) (hj j u hu)⟩
theorem Rd.grown {a b : World} {v : Value} {xs : List Value} (h : Rd a v xs) {r : Nat} (g : a.grownBy b (some r)) (hne : v.ownBlock ≠ some r) : Rd b v xs := by
  obtain ⟨A, c, rfl, hc, hm, h2⟩ := h
  refine ⟨A, c, rfl, hc, hm, fun hn => ?_⟩
  obtain ⟨k, o, rfl, hj⟩ := h2 hn
  exact ⟨k, o, rfl, fun j u hu => g.cell (hj j u hu) (by simpa [Value.ownBlock] using hne)⟩
theorem Rd.of_own {w : World} {base : Nat} {e : TypeId} {v : Value} {n : Nat} {xs : List Value} (h : w.ownsRow base e 1 v n xs) : Rd w v xs := by
  obtain ⟨hl, hv⟩ := h
  rw [Nat.mul_one] at hl
  rcases hv with ⟨rfl, rfl⟩ | ⟨g, cap, cur, rfl, hb, hg, hn, hm, hs, ht⟩
  · have : xs = [] := List.length_eq_zero_iff.1 hl
    subst this
    exact Rd.nil w
  · subst hl
    refine ⟨some ⟨g, 0, none⟩, cap, rfl, hn, by simp [maxLen] at hm; omega, fun _ => ⟨g, 0, rfl, fun j u hu => ?_⟩⟩
    rw [cell_of_row w g (0 + j) cur e (0, 0) hg, Nat.zero_add, ← Array.getElem?_toList]
    rw [← ht, Nat.mul_one] at hu
    rw [List.getElem?_take] at hu
    split at hu
    · exact hu
    · cases hu
theorem Rd.blk {w : World} {k : Nat} {t : TypeId} {cs : Array Value} (h : Blk w k t cs) (hm : cs.size ≤ 9223372036854775807) : Rd w (.slice (some ⟨k, 0, none⟩) cs.size cs.size) cs.toList :=
  ⟨some ⟨k, 0, none⟩, cs.size, by simp, by simp, hm, fun _ => ⟨k, 0, rfl, fun j u hu => by rw [Nat.zero_add, h.cell, ← Array.getElem?_toList]; exact hu⟩⟩

/-- the values of a list of numbers -/
def vI (k : IntKind) (l : List Int) : List Value := l.map (Value.int k)
theorem vI_len (k : IntKind) (l : List Int) : (vI k l).length = l.length := by simp [vI]
theorem vI_get {k : IntKind} {l : List Int} {j : Nat} (h : j < l.length) : (vI k l)[j]? = some (.int k (l[j]?.getD 0)) := by
  simp [vI, h]

theorem Rd.ints {w : World} {k : Nat} {t : TypeId} {q : IntKind} {l : List Int} (h : Blk w k t (vI q l).toArray) (hm : l.length ≤ 9223372036854775807) : Rd w (.slice (some ⟨k, 0, none⟩) l.length l.length) (vI q l) := by
  have := Rd.blk h (by simpa [vI] using hm)
  simpa [vI] using this

end Go.Proofs.Ytabgddiecddbhaa
