/-
  A case (a policy, a seed, a name, a due time, an attempt, a time) and a small policy among the arguments of a row.
-/
import Derived.Test.YtanipfenioaigaaDoorTieM
import Derived.Lib.SmallJoins
set_option linter.unusedVariables false
namespace Go.Proofs.YtanipfenioaigaaDoor
open Go.ChangeShapes Go.WideShapes Go.ChangeAt Go.RowKit Go.Joins

theorem array9 {α : Type} {cs : Array α} (h : cs.size = 9) : ∃ c0 c1 c2 c3 c4 c5 c6 c7 c8, cs = #[c0, c1, c2, c3, c4, c5, c6, c7, c8] := by
  obtain ⟨l⟩ := cs
  match l, h with
  | [c0, c1, c2, c3, c4, c5, c6, c7, c8], _ => exact ⟨c0, c1, c2, c3, c4, c5, c6, c7, c8, rfl⟩
set_option maxRecDepth 4000 in
theorem open_case {H : Type} {enc : TypeId × Value → H} {W : World} {base : Nat} {v : Value} {d : DataW H} {p : List MemPlace}
    (hv : Value.okWide Tryd.prog W .any base 26 v) (h : DataW.Trod enc Tryd.prog W 0 (fun _ => true) true 26 v d p) :
    ∃ (M B C J a : Int) (s : ByteArray) (u n t : Int), v = .agg #[.int .i64 M, .int .i64 B, .int .i64 C, .int .i64 J, .int .u64 a, .string s, .int .i64 u, .int .i64 n, .int .i64 t] ∧ (0 ≤ a ∧ a ≤ 18446744073709551615) ∧ s.size ≤ 9223372036854775807 ∧ (-9223372036854775808 ≤ u ∧ u ≤ 9223372036854775807) ∧ (-9223372036854775808 ≤ n ∧ n ≤ 9223372036854775807) ∧ (-9223372036854775808 ≤ t ∧ t ≤ 9223372036854775807) := by
  have hs := Tryd.underlying26
  obtain ⟨cs, rfl, hsz⟩ := okWide_struct hs hv
  obtain ⟨c0, c1, c2, c3, c4, c5, c6, c7, c8, rfl⟩ := array9 (hsz.trans (by kernel_rfl))
  obtain ⟨fuel, hf⟩ := h
  obtain ⟨xs, k, _, _, hl, hlen, hx⟩ := DataW.trod_struct hs hf
  match xs, hlen with
  | [y0, y1, y2, y3, y4, y5], _ =>
    have h0 := hx 0 _ rfl
    have h1 := hx 1 _ rfl
    have h2 := hx 2 _ rfl
    have h3 := hx 3 _ rfl
    have h4 := hx 4 _ rfl
    have h5 := hx 5 _ rfl
    have k0 : Tryd.prog.cellsOf 24 = 1 := by kernel_rfl
    have k1 : Tryd.prog.cellsOf 9 = 1 := by kernel_rfl
    have k2 : Tryd.prog.cellsOf 2 = 1 := by kernel_rfl
    have k3 : Tryd.prog.cellsOf 3 = 1 := by kernel_rfl
    have k4 : Tryd.prog.cellsOf 23 = 4 := by kernel_rfl
    simp only [Value.cells] at h0
    obtain ⟨xr, kr, _, _, hlr, hlenr, hxr⟩ := DataW.trod_struct Tryd.underlying23 h0
    match xr, hlenr with
    | [z0, z1, z2, z3], _ =>
      have g0 := hxr 0 _ rfl
      have g1 := hxr 1 _ rfl
      have g2 := hxr 2 _ rfl
      have g3 := hxr 3 _ rfl
      obtain ⟨b0, e0, _, w0⟩ := DataW.trod_int Tryd.underlying3 g0
      obtain ⟨b1, e1, _, w1⟩ := DataW.trod_int Tryd.underlying2 g1
      obtain ⟨b2, e2, _, w2⟩ := DataW.trod_int Tryd.underlying2 g2
      obtain ⟨b3, e3, _, w3⟩ := DataW.trod_int Tryd.underlying2 g3
      obtain ⟨b4, e4, _, w4⟩ := DataW.trod_int Tryd.underlying24 h1
      obtain ⟨b5, e5, _, w5⟩ := DataW.trod_string Tryd.underlying9 h2
      obtain ⟨b6, e6, _, w6⟩ := DataW.trod_int Tryd.underlying2 h3
      obtain ⟨b7, e7, _, w7⟩ := DataW.trod_int Tryd.underlying3 h4
      obtain ⟨b8, e8, _, w8⟩ := DataW.trod_int Tryd.underlying2 h5
      simp [Value.cells, k0, k1, k2, k3, k4] at e0 e1 e2 e3 e4 e5 e6 e7 e8
      subst e0 e1 e2 e3 e4 e5 e6 e7 e8
      simp [Lit.wf, IntKind.min, IntKind.max, IntKind.bits, IntKind.signed] at w4 w6 w7 w8
      unfold maxLen at w5
      exact ⟨b0, b1, b2, b3, b4, b5, b6, b7, b8, rfl, ⟨by omega, by omega⟩, by omega, ⟨by omega, by omega⟩, ⟨by omega, by omega⟩, ⟨by omega, by omega⟩⟩
set_option maxRecDepth 4000 in
theorem open_small {H : Type} {enc : TypeId × Value → H} {W : World} {base : Nat} {v : Value} {d : DataW H} {p : List MemPlace}
    (hv : Value.okWide Tryd.prog W .any base 48 v) (h : DataW.Trod enc Tryd.prog W 0 (fun _ => true) true 48 v d p) :
    ∃ a b c e : Int, v = .agg #[.int .u8 a, .int .u16 b, .int .u16 c, .int .u16 e] ∧ (0 ≤ a ∧ a ≤ 255) ∧ (0 ≤ b ∧ b ≤ 65535) ∧ (0 ≤ c ∧ c ≤ 65535) ∧ (0 ≤ e ∧ e ≤ 65535) := by
  obtain ⟨v0, v1, v2, v3, y0, y1, y2, y3, n, rfl, _, _, h0, h1, h2, h3⟩ := open_agg4 Tryd.underlying48 (by kernel_rfl) (by kernel_rfl) hv h
  obtain ⟨b0, e0, _, w0⟩ := DataW.trod_int Tryd.underlying5 h0
  obtain ⟨b1, e1, _, w1⟩ := DataW.trod_int Tryd.underlying46 h1
  obtain ⟨b2, e2, _, w2⟩ := DataW.trod_int Tryd.underlying46 h2
  obtain ⟨b3, e3, _, w3⟩ := DataW.trod_int Tryd.underlying46 h3
  simp only [List.cons.injEq, and_true] at e0 e1 e2 e3
  subst e0 e1 e2 e3
  simp [Lit.wf, IntKind.min, IntKind.max, IntKind.bits, IntKind.signed] at w0 w1 w2 w3
  exact ⟨b0, b1, b2, b3, rfl, ⟨by omega, by omega⟩, ⟨by omega, by omega⟩, ⟨by omega, by omega⟩, ⟨by omega, by omega⟩⟩
end Go.Proofs.YtanipfenioaigaaDoor
