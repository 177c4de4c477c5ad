/-
  A limiter's numbers behind k launches; Take with the state as functions of what it returns.
-/
import Derived.Test.YtgookddningjpaaRateM
set_option linter.unusedVariables false
set_option linter.unusedSimpArgs false
namespace Go.Proofs.Ytgookddningjpaa
open Go.RowKit

/-- behind k launches the arrival time is at most so great -/
def FineK (k : Nat) (som : Bool) (tat last T U : Int) : Prop := validL T U ∧ T ≤ 31 ∧ U ≤ 255 ∧ (0 ≤ tat ∧ tat ≤ 4840 + 31 * k) ∧ (0 ≤ last ∧ last ≤ 4840)
theorem FineK.okl {k : Nat} {som : Bool} {tat last T U : Int} (h : FineK k som tat last T U) (hk : k ≤ 1000) : Okl tat last T U := by
  obtain ⟨a, b, c, ⟨d, e⟩, f, g⟩ := h
  exact ⟨a.1, a.2.1, ⟨d, by omega⟩, ⟨f, by omega⟩⟩
theorem FineK.same {k : Nat} {som : Bool} {tat last T U : Int} (h : FineK k som tat last T U) : FineK (k + 1) som tat last T U := by
  obtain ⟨a, b, c, ⟨d, e⟩, f⟩ := h
  exact ⟨a, b, c, ⟨d, by omega⟩, f⟩
theorem FineK.take {k : Nat} {som : Bool} {tat last T U now : Int} (h : FineK k som tat last T U) (n0 : 0 ≤ now) (n1 : now ≤ 4840) : FineK (k + 1) true (max now tat + T) now T U := by
  obtain ⟨a, b, c, ⟨d, e⟩, f⟩ := h
  have := a.1.1
  exact ⟨a, b, c, ⟨by omega, by omega⟩, by omega, n1⟩
def tkS (som : Bool) (tat last T U now : Int) : Bool := if checkE som tat last T U now = 0 then true else som
def tkT (som : Bool) (tat last T U now : Int) : Int := if checkE som tat last T U now = 0 then max now tat + T else tat
def tkL (som : Bool) (tat last T U now : Int) : Int := if checkE som tat last T U now = 0 then now else last
theorem take_gen (k : Nat) (som : Bool) (tat last T U now : Int) (ho : Okl tat last T U) (w : World) (hb : Lim w k som tat last T U) :
    Calls Try.prog 21 #[.pointer (some ⟨k, 0, none⟩), .int .i64 now] w fun e w' => e = .returned (.int .i64 (checkE som tat last T U now)) ∧ w.grownBy w' (some k) ∧ Lim w' k (tkS som tat last T U now) (tkT som tat last T U now) (tkL som tat last T U now) T U := by
  unfold tkS tkT tkL
  by_cases hc : checkE som tat last T U now = 0
  · rw [if_pos hc, if_pos hc, if_pos hc]
    refine (take_ok k som tat last T U now ho hc w hb).mono ?_
    rintro e w1 ⟨rfl, g, l⟩
    rw [hc]
    exact ⟨rfl, g, l⟩
  · rw [if_neg hc, if_neg hc, if_neg hc]
    refine (take_no k som tat last T U now ho hc w hb).mono ?_
    rintro e w1 ⟨rfl, g⟩
    exact ⟨rfl, grown_of_G g _, hb.g g⟩
theorem FineK.tk {k : Nat} {som : Bool} {tat last T U now : Int} (h : FineK k som tat last T U) (n1 : checkE som tat last T U now = 0 → 0 ≤ now ∧ now ≤ 4840) : FineK (k + 1) (tkS som tat last T U now) (tkT som tat last T U now) (tkL som tat last T U now) T U := by
  unfold tkS tkT tkL
  by_cases hc : checkE som tat last T U now = 0
  · rw [if_pos hc, if_pos hc, if_pos hc]; exact h.take (n1 hc).1 (n1 hc).2
  · rw [if_neg hc, if_neg hc, if_neg hc]; exact h.same
end Go.Proofs.Ytgookddningjpaa
