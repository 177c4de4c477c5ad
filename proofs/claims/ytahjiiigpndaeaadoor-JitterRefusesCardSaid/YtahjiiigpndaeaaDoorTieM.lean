/-
  What a row of this seat lists (the table of package mix), as the cells that the walks read; a world for the witness.
-/
import Derived.Test.YtahjiiigpndaeaaDoorCards
import Derived.Test.YtahjiiigpndaeaaDoorTie
import Derived.Test.YtahjiiigpndaeaaDoorMixC
import Derived.Test.YtahjiiigpndaeaaDoorLaw
import Derived.Deep.DeepHandedRow
import Derived.Lib.LaidTab
set_option linter.unusedVariables false
set_option linter.unusedSimpArgs false
namespace Go.Proofs.YtahjiiigpndaeaaDoor
open Go.ChangeShapes Go.WideShapes Go.ChangeAt Go.RowKit

theorem own_ : ownKnob Tryd.prog.godebug = none := by kernel_rfl
theorem laidOut_ : laidOutB Tryd.prog = true := by kernel_rfl
theorem gSteps : Tryd.prog.globalNamed "wakeman/mix.steps" = some 0 := by kernel_rfl
theorem gStepsType : (Tryd.prog.globals[0]?).map (·.type) = some 82 := by kernel_rfl
theorem cellsArr : Tryd.prog.cellsOf 82 = 6 := by kernel_rfl
theorem cellsStep : Tryd.prog.cellsOf 81 = 2 := by kernel_rfl
theorem cellsInt : Tryd.prog.cellsOf 3 = 1 := by kernel_rfl
theorem cellsU64 : Tryd.prog.cellsOf 22 = 1 := by kernel_rfl

theorem step_of {H : Type} {enc : TypeId × Value → H} {w : World} {base : Nat} {sp : Nat → Bool} {held : Bool} {fuel : Nat} {cs : List Value} {x : DataW H × List MemPlace} {a m : Int}
    (h : DataW.trod enc Tryd.prog w base sp held fuel 81 cs = some x) (hx : x.1 = .agg [.lit (.int .i64 a), .lit (.int .u64 m)]) : cs.take 1 = [.int .i64 a] ∧ (cs.drop 1).take 1 = [.int .u64 m] := by
  obtain ⟨y0, y1, n, rfl, hl, h0, h1⟩ := trod_struct2 Tryd.underlying81 h
  obtain ⟨b0, e0, r0, _⟩ := DataW.trod_int Tryd.underlying3 h0
  obtain ⟨b1, e1, r1, _⟩ := DataW.trod_int Tryd.underlying22 h1
  subst r0 r1
  simp only [DataW.agg.injEq, List.cons.injEq, DataW.lit.injEq, Lit.int.injEq, true_and, and_true] at hx
  obtain ⟨rfl, rfl⟩ := hx
  rw [cellsInt] at e0
  rw [cellsU64] at e1
  simp only [List.drop_zero] at e0
  exact ⟨e0, e1⟩

theorem tab_of {W : World} (h : laidMetH Tryd.prog [("wakeman/mix.steps", Rows.laid_wakeman_mix_steps)] W) : Tab W := by
  obtain ⟨ps, ⟨g', t', cs, fuel, p, q, hg', ht', hvar, hd, _, _⟩, _⟩ := h
  obtain rfl := Option.some.inj (gSteps.symm.trans hg')
  obtain rfl := Option.some.inj (gStepsType.symm.trans ht')
  obtain ⟨xs, m, _, hx, hl, hxl, hi⟩ := DataW.trod_array Tryd.underlying82 hd
  rw [cellsArr] at hl
  rw [cellsStep] at hi
  simp only [Prod.mk.injEq, Rows.laid_wakeman_mix_steps, DataW.agg.injEq] at hx
  obtain ⟨hx, -⟩ := hx
  match xs, hxl with
  | [x0, x1, x2], _ =>
    simp only [List.map_cons, List.map_nil, List.cons.injEq, and_true] at hx
    obtain ⟨e0, e1, e2⟩ := hx
    obtain ⟨a0, b0⟩ := step_of (hi 0 (by decide)) e0.symm
    obtain ⟨a1, b1⟩ := step_of (hi 1 (by decide)) e1.symm
    obtain ⟨a2, b2⟩ := step_of (hi 2 (by decide)) e2.symm
    have hc := World.var?_cell gSteps hvar
    have hz : 0 < W.heap.size := by
      rcases Nat.lt_or_ge 0 W.heap.size with h | h
      · exact h
      · have h0 := hc 0
        simp [World.cell?, Array.getElem?_eq_none h] at h0
        have : cs.toList.length = 0 := by simp; omega
        omega
    have hget : ∀ i : Nat, cs[i]? = cs.toList[i]? := fun i => (Array.getElem?_toList ..).symm
    generalize cs.toList = l at *
    match l, hl with
    | [v0, v1, v2, v3, v4, v5], _ =>
      simp at a0 b0 a1 b1 a2 b2
      subst a0 b0 a1 b1 a2 b2
      exact ⟨hz, (hc 0).trans (hget 0), (hc 1).trans (hget 1), (hc 2).trans (hget 2), (hc 3).trans (hget 3), (hc 4).trans (hget 4), (hc 5).trans (hget 5)⟩
/-- A world for the witness: the settled one, the table holding what its initialiser lays. -/
noncomputable def laidWorld (os : Os) : World :=
  { World.holding Tryd.prog os ⟨#[], #[], []⟩ with heap := (World.holding Tryd.prog os ⟨#[], #[], []⟩).heap.modify 0 fun
      | .cells _ t frozen => .cells #[.int .i64 30, .int .u64 13787848793156543929, .int .i64 27, .int .u64 10723151780598845931, .int .i64 31, .int .u64 1] t frozen
      | o => o }
theorem open_string {H : Type} {enc : TypeId × Value → H} {P : Program} {w : World} {base : Nat} {spare : Nat → Bool} {held : Bool} {r : Reach} {b0 : Nat} {t : TypeId} {v : Value} {d : DataW H} {ps : List MemPlace} (ht : P.underlying t = some .string) (hval : Value.okWide P w r b0 t v) (hd : DataW.Trod enc P w base spare held t v d ps) :
    ∃ s : ByteArray, v = .string s ∧ d = .lit (.string s.data.toList) ∧ ps = [] ∧ s.size ≤ 9223372036854775807 := by
  obtain ⟨s, rfl⟩ := okWide_string ht hval
  obtain ⟨fuel, hf⟩ := hd
  obtain ⟨s', h, hx, hw⟩ := DataW.trod_string ht hf
  simp [Value.cells] at h
  subst h
  simp only [Prod.mk.injEq] at hx
  exact ⟨s, rfl, hx.1, hx.2, hw⟩
end Go.Proofs.YtahjiiigpndaeaaDoor
