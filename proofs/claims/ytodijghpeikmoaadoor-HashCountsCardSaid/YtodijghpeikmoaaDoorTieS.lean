/-
  A slice of texts among the arguments reads as a list of texts.
-/
import Derived.Test.YtodijghpeikmoaaDoorTieM
import Derived.Test.YtodijghpeikmoaaDoorHsG
import Derived.SliceStrings
set_option linter.unusedVariables false
set_option linter.unusedSimpArgs false
namespace Go.Proofs.YtodijghpeikmoaaDoor
open Go.ChangeShapes Go.WideShapes Go.ChangeAt Go.RowKit

theorem open_texts {H : Type} {enc : TypeId × Value → H} {P : Program} {T E : TypeId} {W : World} {base : Nat} {v : Value} {d : DataW H} {p : List MemPlace} (ht : P.underlying T = some (.slice E)) (he : P.underlying E = some .string) (hce : P.cellsOf E = 1)
    (hv : Value.okWide P W .any base T v) (hj : DataW.Trod enc P W 0 (fun _ => true) true T v d p) : ∃ l : List ByteArray, Rd W v (vS l) ∧ ∀ s ∈ l, s.size ≤ 9223372036854775807 := by
  obtain ⟨a0, len, cap, rfl⟩ := okWide_slice ht hv
  obtain ⟨fuel, hf⟩ := hj
  rcases open_strings ht he hce hf with ⟨hcs, hx⟩ | ⟨a, len', cap', zs, hcs, _, hl, hm, hz, hx, hcell, hwz⟩
  · simp only [Value.cells, Array.toList, List.cons.injEq, and_true] at hcs
    refine ⟨[], ?_, by simp⟩
    rw [hcs]
    exact Rd.nil W
  · simp only [Value.cells, Array.toList, List.cons.injEq, and_true, Value.slice.injEq] at hcs
    obtain ⟨rfl, rfl, rfl⟩ := hcs
    simp only [if_true] at hz
    refine ⟨zs.take len, ⟨some a, cap, ?_, ?_, ?_, ?_⟩, fun x hx => by have := hwz x (List.mem_of_mem_take hx); unfold maxLen at this; omega⟩
    · rw [vS_len, List.length_take, Nat.min_eq_left (by omega)]
    · rw [vS_len, List.length_take]; omega
    · unfold maxLen at hm; omega
    · rw [vS_len, List.length_take]
      intro hn
      obtain ⟨b, off, spot⟩ := a
      have hspot : spot = none := by simpa [Addr.add] using World.cell?_spot (hcell 0 (by omega))
      subst hspot
      refine ⟨b, off, rfl, fun j u hu => ?_⟩
      have hj : j < len := by
        rcases Nat.lt_or_ge j (zs.take len).length with h | h
        · rw [List.length_take] at h; omega
        · rw [List.getElem?_eq_none (by rw [vS_len]; exact h)] at hu; cases hu
      rw [vS_get (by rw [List.length_take]; omega)] at hu
      have h1 := hcell j (by omega)
      rw [← hu]
      rw [Go.WideShapes.add_plain] at h1
      rw [h1, List.getElem?_take_of_lt hj, List.getD_eq_getElem?_getD]
end Go.Proofs.YtodijghpeikmoaaDoor
