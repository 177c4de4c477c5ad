/-
  A slice of pairs of small numbers among the arguments of a row.
-/
import Derived.Test.YtanipfenioaigaaDoorTieD
import Derived.Deep.Slices
set_option linter.unusedVariables false
set_option linter.unusedSimpArgs false
namespace Go.Proofs.YtanipfenioaigaaDoor
open Go.ChangeShapes Go.WideShapes Go.ChangeAt Go.RowKit

/-- the slice value v reads as n pairs of numbers of 16 bits -/
def RdP (w : World) (v : Value) (n : Nat) : Prop :=
  ∃ A c, v = .slice A n c ∧ n ≤ c ∧ c ≤ 9223372036854775807 ∧ ∀ i, i < n → ∃ b o x y, A = some ⟨b, o, none⟩ ∧ w.cell? ⟨b, o + i * 2, none⟩ = some (.int .u16 x) ∧ w.cell? ⟨b, o + i * 2 + 1, none⟩ = some (.int .u16 y) ∧ (0 ≤ x ∧ x ≤ 65535) ∧ (0 ≤ y ∧ y ≤ 65535)
theorem open_pairs {H : Type} {enc : TypeId × Value → H} {P : Program} {T E K : TypeId} {W : World} {base : Nat} {v : Value} {d : DataW H} {p : List MemPlace} (ht : P.underlying T = some (.slice E)) (he : P.underlying E = some (.array 2 K)) (hk : P.underlying K = some (.int .u16)) (hcE : P.cellsOf E = 2) (hcK : P.cellsOf K = 1)
    (hv : Value.okWide P W .any base T v) (hj : DataW.Trod enc P W 0 (fun _ => true) true T v d p) : ∃ n, RdP W v n := by
  obtain ⟨a0, len, cap, rfl⟩ := okWide_slice ht hv
  obtain ⟨fuel, hf⟩ := hj
  rcases Go.Deep.open_slice ht hf with ⟨hcs, hx⟩ | ⟨a, len', cap', m, n, D, Pl, hcs, _, hl, hm, hme, hx, hi⟩
  · simp only [Value.cells, Array.toList, List.cons.injEq, and_true] at hcs
    exact ⟨0, none, 0, hcs, by omega, by omega, fun i h => absurd h (by omega)⟩
  · simp only [Value.cells, Array.toList, List.cons.injEq, and_true, Value.slice.injEq] at hcs
    obtain ⟨rfl, rfl, rfl⟩ := hcs
    simp only [if_true] at hme
    subst hme
    refine ⟨len, some a, m, rfl, hl, by unfold maxLen at hm; omega, fun i h => ?_⟩
    obtain ⟨cs', h1, h2⟩ := hi i (by omega)
    rw [hcE] at h1
    obtain ⟨xs, q, _, _, hlen, hxl, hel⟩ := DataW.trod_array he h2
    rw [hcE] at hlen
    rw [hcK] at hel
    match cs', hlen with
    | [c0, c1], _ =>
      match xs, hxl with
      | [z0, z1], _ =>
        have e0 := hel 0 (by decide)
        have e1 := hel 1 (by decide)
        obtain ⟨x, ex, _, wx⟩ := DataW.trod_int hk e0
        obtain ⟨y, ey, _, wy⟩ := DataW.trod_int hk e1
        simp at ex ey
        subst ex ey
        obtain ⟨_, _, hc⟩ := World.cells?_some h1
        have k0 := hc 0 (by decide)
        have k1 := hc 1 (by decide)
        obtain ⟨b, o, spot⟩ := a
        obtain ⟨cs0, g1, g2⟩ := hi 0 (by omega)
        rw [hcE] at g1
        obtain ⟨_, gl, gc⟩ := World.cells?_some g1
        have g0 := gc 0 (by decide)
        rw [List.getElem?_eq_getElem (by omega)] at g0
        have hspot : spot = none := by simpa [Addr.add] using World.cell?_spot g0
        subst hspot
        rw [Go.WideShapes.add_plain, Go.WideShapes.add_plain] at k0 k1
        simp [Lit.wf, IntKind.min, IntKind.max, IntKind.bits, IntKind.signed] at wx wy
        exact ⟨b, o, x, y, rfl, k0, k1, ⟨by omega, by omega⟩, ⟨by omega, by omega⟩⟩
end Go.Proofs.YtanipfenioaigaaDoor
