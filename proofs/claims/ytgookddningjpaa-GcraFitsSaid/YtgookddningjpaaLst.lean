/-
  A slice that reads as a list (Rd), nil let in; slices.Equal at equal lists.
-/
import Derived.Test.YtgookddningjpaaBase
set_option linter.unusedVariables false
set_option linter.unusedSimpArgs false
namespace Go.Proofs.Ytgookddningjpaa
open Go.RowKit

/-- The slice value v reads as the list xs (cells of one cell each). -/
def Rd (w : World) (v : Value) (xs : List Value) : Prop :=
  ∃ A c, v = .slice A xs.length c ∧ xs.length ≤ c ∧ c ≤ 9223372036854775807 ∧ (0 < xs.length → ∃ b o, A = some ⟨b, o, none⟩ ∧ ∀ j u, xs[j]? = some u → w.cell? ⟨b, o + j, none⟩ = some u)
theorem Rd.nil (w : World) : Rd w (.slice none 0 0) [] := ⟨none, 0, rfl, by simp, by omega, fun h => absurd h (by simp)⟩
theorem Rd.g {a b : World} {v : Value} {xs : List Value} (h : Rd a v xs) (g : G a b) : Rd b v xs := by
  obtain ⟨A, c, rfl, hc, hm, h2⟩ := h
  refine ⟨A, c, rfl, hc, hm, fun hn => ?_⟩
  obtain ⟨k, o, rfl, hj⟩ := h2 hn
  exact ⟨k, o, rfl, fun j u hu => g.cell (World.block_lt_of_cell? a _ (hj j u hu)) (hj j u hu)⟩
theorem Rd.grown {a b : World} {v : Value} {xs : List Value} (h : Rd a v xs) {r : Nat} (g : a.grownBy b (some r)) (hne : v.ownBlock ≠ some r) : Rd b v xs := by
  obtain ⟨A, c, rfl, hc, hm, h2⟩ := h
  refine ⟨A, c, rfl, hc, hm, fun hn => ?_⟩
  obtain ⟨k, o, rfl, hj⟩ := h2 hn
  exact ⟨k, o, rfl, fun j u hu => g.cell (hj j u hu) (by simpa [Value.ownBlock] using hne)⟩
theorem Rd.of_own {w : World} {base : Nat} {e : TypeId} {v : Value} {n : Nat} {xs : List Value} (h : w.ownsRow base e 1 v n xs) : Rd w v xs := by
  obtain ⟨hl, hv⟩ := h
  rw [Nat.mul_one] at hl
  rcases hv with ⟨rfl, rfl⟩ | ⟨g, cap, cur, rfl, hb, hg, hn, hm, hs, ht⟩
  · have : xs = [] := List.length_eq_zero_iff.1 hl
    subst this
    exact Rd.nil w
  · subst hl
    refine ⟨some ⟨g, 0, none⟩, cap, rfl, hn, by simp [maxLen] at hm; omega, fun _ => ⟨g, 0, rfl, fun j u hu => ?_⟩⟩
    rw [cell_of_row w g (0 + j) cur e (0, 0) hg, Nat.zero_add, ← Array.getElem?_toList]
    rw [← ht, Nat.mul_one] at hu
    rw [List.getElem?_take] at hu
    split at hu
    · exact hu
    · cases hu
theorem Rd.blk {w : World} {k : Nat} {t : TypeId} {cs : Array Value} (h : Blk w k t cs) (hm : cs.size ≤ 9223372036854775807) : Rd w (.slice (some ⟨k, 0, none⟩) cs.size cs.size) cs.toList :=
  ⟨some ⟨k, 0, none⟩, cs.size, by simp, by simp, hm, fun _ => ⟨k, 0, rfl, fun j u hu => by rw [Nat.zero_add, h.cell, ← Array.getElem?_toList]; exact hu⟩⟩

/-- the values of a list of numbers -/
def vI (k : IntKind) (l : List Int) : List Value := l.map (Value.int k)
theorem vI_len (k : IntKind) (l : List Int) : (vI k l).length = l.length := by simp [vI]
theorem vI_get {k : IntKind} {l : List Int} {j : Nat} (h : j < l.length) : (vI k l)[j]? = some (.int k (l[j]?.getD 0)) := by
  simp [vI, h]

theorem Rd.ints {w : World} {k : Nat} {t : TypeId} {q : IntKind} {l : List Int} (h : Blk w k t (vI q l).toArray) (hm : l.length ≤ 9223372036854775807) : Rd w (.slice (some ⟨k, 0, none⟩) l.length l.length) (vI q l) := by
  have := Rd.blk h (by simpa [vI] using hm)
  simpa [vI] using this

set_option maxHeartbeats 400000 in
theorem equal_i64 (l : List Int) (v1 v2 : Value) (w : World) (h1 : Rd w v1 (vI .i64 l)) (h2 : Rd w v2 (vI .i64 l)) :
    Calls Try.prog 38 #[v1, v2] w fun e w' => e = .returned (.bool true) ∧ G w w' := by
  obtain ⟨A1, d1, rfl, hd1, hm1, h1⟩ := h1
  obtain ⟨A2, d2, rfl, hd2, hm2, h2⟩ := h2
  rw [vI_len] at *
  have hn : l.length ≤ 9223372036854775807 := by omega
  go_enter Try.func38, Try.ntmps38
  go_wp2
  go_loopw [13] (fun i wr => ∃ k : Nat, k ≤ l.length ∧ i = .int .i64 k ∧ G w wr) (fun i _ => l.length - (intOf i).toNat)
  case atStart => exact ⟨0, Nat.zero_le _, rfl, G.refl _⟩
  case round =>
    obtain ⟨k, hk, rfl, hg⟩ := hrel
    by_cases hlt : k < l.length
    · obtain ⟨b1, o1, rfl, c1⟩ := h1 (by omega)
      obtain ⟨b2, o2, rfl, c2⟩ := h2 (by omega)
      have e1 := c1 k _ (vI_get hlt)
      have e2 := c2 k _ (vI_get hlt)
      have f1 := hg.cell (World.block_lt_of_cell? w _ e1) e1
      have f2 := hg.cell (World.block_lt_of_cell? w _ e2) e2
      clear c1 c2 e1 e2 h1 h2
      go_wp2
      go_quiet (fail)
      go_wp2
      go_roundw
      case rel => exact ⟨k + 1, by omega, by go_num, (by repeat (first | exact G.refl _ | refine G.alloc ?_ _ | refine G.drewN ?_ _ | refine G.drew ?_ | refine G.trans ?_ (by assumption)))⟩
      case measure => simp [intOf]; omega
    · go_wp2
      go_ret
      exact ⟨rfl, hg⟩
end Go.Proofs.Ytgookddningjpaa
