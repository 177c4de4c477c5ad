/-
  GcraRate's plain law: a launch keeps to the rate with all that were counted just when it is not early.
-/
import Derived.Test.YtgookddningjpaaGcT
set_option linter.unusedVariables false
set_option linter.unusedSimpArgs false
namespace Go.Proofs.Ytgookddningjpaa
open Go.RowKit

def condR (tk : List Int) (T U now : Int) (i : Nat) : Bool := decide (((tk.length : Int) - i) * T ≤ now - at_ tk i + U)
def keepsTo (tk : List Int) (T U now : Int) : Nat → Bool
  | 0 => true
  | j + 1 => keepsTo tk T U now j && condR tk T U now j
theorem keepsTo_iff (tk : List Int) (T U now : Int) : ∀ j, keepsTo tk T U now j = true ↔ ∀ i, i < j → condR tk T U now i = true
  | 0 => by simp [keepsTo]
  | j + 1 => by
    unfold keepsTo
    rw [Bool.and_eq_true, keepsTo_iff tk T U now j]
    constructor
    · rintro ⟨h1, h2⟩ i hi
      rcases Nat.lt_or_ge i j with h | h
      · exact h1 i h
      · obtain rfl : i = j := by omega
        exact h2
    · intro h
      exact ⟨fun i hi => h i (by omega), h j (by omega)⟩
theorem tat_le (tk : List Int) (T : Int) (hT : 0 ≤ T) (h0 : 0 ≤ at_ tk 0) (B : Int) (p : Nat) : tatTo tk T (p + 1) ≤ B ↔ ∀ i : Nat, i < p + 1 → at_ tk i + ((p + 1 : Nat) - (i : Int)) * T ≤ B := by
  induction p generalizing B with
  | zero =>
    rw [show tatTo tk T (0 + 1) = max (at_ tk 0) 0 + T from rfl]
    constructor
    · intro h i hi
      obtain rfl : i = 0 := by omega
      rw [show (((0 + 1 : Nat) : Int) - ((0 : Nat) : Int)) = 1 by omega, Int.one_mul]
      omega
    · intro h
      have := h 0 (by omega)
      rw [show (((0 + 1 : Nat) : Int) - ((0 : Nat) : Int)) = 1 by omega, Int.one_mul] at this
      omega
  | succ p ih =>
    rw [show tatTo tk T (p + 1 + 1) = max (at_ tk (p + 1)) (tatTo tk T (p + 1)) + T from rfl]
    have hstep : ∀ i : Nat, ((p + 1 + 1 : Nat) - (i : Int)) * T = ((p + 1 : Nat) - (i : Int)) * T + T := fun i => by
      rw [show ((p + 1 + 1 : Nat) : Int) - (i : Int) = (((p + 1 : Nat) : Int) - (i : Int)) + 1 by omega, Int.add_mul, Int.one_mul]
    have hB := ih (B - T)
    constructor
    · intro h i hi
      rw [hstep]
      rcases Nat.lt_or_ge i (p + 1) with hlt | hge
      · have := hB.1 (by omega) i hlt
        omega
      · obtain rfl : i = p + 1 := by omega
        rw [Int.sub_self, Int.zero_mul]
        omega
    · intro h
      have h1 := h (p + 1) (by omega)
      rw [hstep, Int.sub_self, Int.zero_mul] at h1
      have h2 := hB.2 (fun i hi => by have := h i (by omega); rw [hstep] at this; omega)
      omega
/-- what is known of the times that were counted -/
def TkOk (tk : List Int) (now : Int) : Prop := tk.length ≤ 60 ∧ ∀ i, i < tk.length → 1000 ≤ at_ tk i ∧ at_ tk i ≤ now
theorem tat_bound {tk : List Int} {T now : Int} (hT : 0 ≤ T) (h : TkOk tk now) (hn : 0 ≤ now) : ∀ p, p ≤ tk.length → 0 ≤ tatTo tk T p ∧ tatTo tk T p ≤ now + T * p
  | 0, _ => ⟨by simp [tatTo], by simp [tatTo]; exact hn⟩
  | p + 1, hp => by
    have ih := tat_bound hT h hn p (by omega)
    have := h.2 p (by omega)
    rw [show tatTo tk T (p + 1) = max (at_ tk p) (tatTo tk T p) + T from rfl, show T * ((p + 1 : Nat) : Int) = T * p + T by rw [Int.natCast_succ, Int.mul_add, Int.mul_one]]
    have h3 : 0 ≤ T * (p : Int) := Int.mul_nonneg hT (by omega)
    omega
theorem rate_okl {tk : List Int} {T U now : Int} (hv : validL T U) (hT1 : T ≤ 31) (h : TkOk tk now) (hn0 : 1000 ≤ now) (hn1 : now ≤ 4840) : Okl (tatTo tk T tk.length) (lastTo tk tk.length) T U := by
  have hb := tat_bound hv.1.1 h (by omega) tk.length (Nat.le_refl _)
  have hm : T * (tk.length : Int) ≤ 31 * 60 := Int.mul_le_mul hT1 (by have := h.1; omega) (by omega) (by omega)
  refine ⟨hv.1, hv.2.1, ⟨hb.1, by omega⟩, ?_⟩
  cases hl : tk.length with
  | zero => simp [lastTo]
  | succ p =>
    have := h.2 p (by omega)
    show 0 ≤ at_ tk p ∧ at_ tk p ≤ 253402300799
    omega
theorem rate_last {tk : List Int} {now : Int} (h : TkOk tk now) : ¬ (decide (0 < tk.length) = true ∧ now < lastTo tk tk.length) := by
  rintro ⟨h1, h2⟩
  cases hl : tk.length with
  | zero => rw [hl] at h1; simp at h1
  | succ p =>
    rw [hl] at h2
    have := h.2 p (by omega)
    have h2 : now < at_ tk p := h2
    omega
theorem rate_early {tk : List Int} {T U now : Int} (hv : validL T U) (h : TkOk tk now) : earlyB (decide (0 < tk.length)) (tatTo tk T tk.length) T U now = !keepsTo tk T U now tk.length := by
  rw [Bool.eq_not]
  have hk := keepsTo_iff tk T U now tk.length
  have key : earlyB (decide (0 < tk.length)) (tatTo tk T tk.length) T U now = false ↔ keepsTo tk T U now tk.length = true := by
    rw [hk]
    unfold earlyB condR
    rcases Nat.eq_zero_or_pos tk.length with h0 | hp
    · rw [h0]; simp
    · by_cases hT : 0 < T
      · obtain ⟨p, hp'⟩ : ∃ p, tk.length = p + 1 := ⟨tk.length - 1, by omega⟩
        have hx := (h.2 0 hp).1
        have := tat_le tk T hv.1.1 (by omega) (now + U) p
        rw [hp'] at *
        simp only [hT, decide_true, Bool.true_and, Nat.zero_lt_succ, decide_eq_true_eq]
        rw [decide_eq_false_iff_not]
        constructor
        · intro hh i hi
          have := this.1 (by omega) i hi
          omega
        · intro hh
          have := this.2 (fun i hi => by have := hh i hi; omega)
          omega
      · have hT0 : T = 0 := by have := hv.1.1; omega
        have hU : U = 0 := by rcases hv.2.2 with h | h; exact absurd h hT; exact h
        subst hT0 hU
        simp only [Int.lt_irrefl, decide_false, Bool.false_and, true_iff]
        intro i hi
        have := h.2 i hi
        rw [Int.mul_zero]
        simp
        omega
  cases he : earlyB (decide (0 < tk.length)) (tatTo tk T tk.length) T U now <;> cases hq : keepsTo tk T U now tk.length <;> simp_all
theorem rate_check {tk : List Int} {T U now : Int} (hv : validL T U) (h : TkOk tk now) (hn0 : 1000 ≤ now) (hn1 : now ≤ 4840) : checkE (decide (0 < tk.length)) (tatTo tk T tk.length) (lastTo tk tk.length) T U now = if keepsTo tk T U now tk.length = true then 0 else 9 := by
  unfold checkE
  rw [if_neg (by have : isT now := ⟨by omega, by omega⟩; simpa using this), if_neg (rate_last h), rate_early hv h]
  cases keepsTo tk T U now tk.length <;> simp
theorem at_app_lt {l : List Int} {x : Int} {k : Nat} (h : k < l.length) : at_ (l ++ [x]) k = at_ l k := by
  unfold at_; rw [List.getElem?_append_left h]
theorem at_app_eq (l : List Int) (x : Int) : at_ (l ++ [x]) l.length = x := by
  unfold at_; simp
theorem tat_app (l : List Int) (x T : Int) : ∀ p, p ≤ l.length → tatTo (l ++ [x]) T p = tatTo l T p
  | 0, _ => rfl
  | p + 1, h => by
    show max (at_ (l ++ [x]) p) (tatTo (l ++ [x]) T p) + T = max (at_ l p) (tatTo l T p) + T
    rw [at_app_lt (by omega), tat_app l x T p (by omega)]
theorem grown_far {a b c : World} {k : Nat} {row : Option Nat} (h : a.grownBy b (some k)) (g : b.grownBy c row) (hr : ∀ r, row = some r → a.heap.size ≤ r) : a.grownBy c (some k) :=
  ⟨g.os.trans h.os, g.tape.trans h.tape, g.output.trans h.output, Nat.le_trans h.size g.size, fun i hi hne => (g.block i (Nat.lt_of_lt_of_le hi h.size) (fun e => by have := hr i e.symm; omega)).trans (h.block i hi hne)⟩
end Go.Proofs.Ytgookddningjpaa
