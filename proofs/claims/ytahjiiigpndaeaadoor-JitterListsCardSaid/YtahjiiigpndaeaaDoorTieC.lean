/-
  A case (a struct of five one-cell fields) among the arguments of a row.
-/
import Derived.Test.YtahjiiigpndaeaaDoorTieM
import Derived.Lib.SmallJoins
set_option linter.unusedVariables false
namespace Go.Proofs.YtahjiiigpndaeaaDoor
open Go.ChangeShapes Go.WideShapes Go.ChangeAt Go.RowKit Go.Joins

theorem array5 {α : Type} {cs : Array α} (h : cs.size = 5) : ∃ c0 c1 c2 c3 c4, cs = #[c0, c1, c2, c3, c4] := by
  obtain ⟨l⟩ := cs
  match l, h with
  | [c0, c1, c2, c3, c4], _ => exact ⟨c0, c1, c2, c3, c4, rfl⟩
theorem open_case {H : Type} {enc : TypeId × Value → H} {W : World} {base : Nat} {v : Value} {d : DataW H} {p : List MemPlace}
    (hv : Value.okWide Tryd.prog W .any base 36 v) (h : DataW.Trod enc Tryd.prog W 0 (fun _ => true) true 36 v d p) :
    ∃ (a : Int) (s : ByteArray) (u n L : Int), v = .agg #[.int .u64 a, .string s, .int .i64 u, .int .i64 n, .int .i64 L] ∧ (0 ≤ a ∧ a ≤ 18446744073709551615) ∧ s.size ≤ 9223372036854775807 ∧ (-9223372036854775808 ≤ u ∧ u ≤ 9223372036854775807) ∧ (-9223372036854775808 ≤ n ∧ n ≤ 9223372036854775807) ∧ (-9223372036854775808 ≤ L ∧ L ≤ 9223372036854775807) := by
  have hs := Tryd.underlying36
  obtain ⟨cs, rfl, hsz⟩ := okWide_struct hs hv
  obtain ⟨c0, c1, c2, c3, c4, rfl⟩ := array5 (hsz.trans (by kernel_rfl))
  obtain ⟨fuel, hf⟩ := h
  obtain ⟨xs, k, _, _, hl, hlen, hx⟩ := DataW.trod_struct hs hf
  match xs, hlen with
  | [y0, y1, y2, y3, y4], _ =>
    have h0 := hx 0 _ rfl
    have h1 := hx 1 _ rfl
    have h2 := hx 2 _ rfl
    have h3 := hx 3 _ rfl
    have h4 := hx 4 _ rfl
    obtain ⟨b0, e0, _, w0⟩ := DataW.trod_int Tryd.underlying22 h0
    obtain ⟨b1, e1, _, w1⟩ := DataW.trod_string Tryd.underlying9 h1
    obtain ⟨b2, e2, _, w2⟩ := DataW.trod_int Tryd.underlying2 h2
    obtain ⟨b3, e3, _, w3⟩ := DataW.trod_int Tryd.underlying3 h3
    obtain ⟨b4, e4, _, w4⟩ := DataW.trod_int Tryd.underlying2 h4
    have k0 : Tryd.prog.cellsOf 22 = 1 := by kernel_rfl
    have k1 : Tryd.prog.cellsOf 9 = 1 := by kernel_rfl
    have k2 : Tryd.prog.cellsOf 2 = 1 := by kernel_rfl
    have k3 : Tryd.prog.cellsOf 3 = 1 := by kernel_rfl
    simp [Value.cells, k0, k1, k2, k3] at e0 e1 e2 e3 e4
    subst e0 e1 e2 e3 e4
    simp [Lit.wf, IntKind.min, IntKind.max, IntKind.bits, IntKind.signed] at w0 w2 w3 w4
    unfold maxLen at w1
    exact ⟨b0, b1, b2, b3, b4, rfl, ⟨by omega, by omega⟩, by omega, ⟨by omega, by omega⟩, ⟨by omega, by omega⟩, ⟨by omega, by omega⟩⟩
end Go.Proofs.YtahjiiigpndaeaaDoor
