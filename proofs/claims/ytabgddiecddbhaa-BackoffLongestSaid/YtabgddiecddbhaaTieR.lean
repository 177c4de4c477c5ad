/-
  A policy among the arguments of a row.
-/
import Derived.Test.YtabgddiecddbhaaTieP
import Derived.Lib.SmallJoins
set_option linter.unusedVariables false
namespace Go.Proofs.Ytabgddiecddbhaa
open Go.ChangeShapes Go.WideShapes Go.ChangeAt Go.RowKit Go.Joins

/-- A policy among the arguments is four numbers. -/
theorem open_retry {H : Type} {enc : TypeId × Value → H} {W : World} {base : Nat} {v : Value} {d : DataW H} {p : List MemPlace}
    (hv : Value.okWide Try.prog W .any base 23 v) (h : DataW.Trod enc Try.prog W 0 (fun _ => true) true 23 v d p) : ∃ a b c e : Int, v = .agg #[.int .i64 a, .int .i64 b, .int .i64 c, .int .i64 e] := by
  obtain ⟨v0, v1, v2, v3, y0, y1, y2, y3, n, rfl, _, _, h0, h1, h2, h3⟩ := open_agg4 Try.underlying23 (by kernel_rfl) (by kernel_rfl) hv h
  obtain ⟨b0, e0, _, _⟩ := DataW.trod_int Try.underlying3 h0
  obtain ⟨b1, e1, _, _⟩ := DataW.trod_int Try.underlying2 h1
  obtain ⟨b2, e2, _, _⟩ := DataW.trod_int Try.underlying2 h2
  obtain ⟨b3, e3, _, _⟩ := DataW.trod_int Try.underlying2 h3
  simp only [List.cons.injEq, and_true] at e0 e1 e2 e3
  subst e0 e1 e2 e3
  exact ⟨b0, b1, b2, b3, rfl⟩
end Go.Proofs.Ytabgddiecddbhaa
