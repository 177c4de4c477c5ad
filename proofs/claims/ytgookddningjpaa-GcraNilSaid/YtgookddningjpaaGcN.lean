/-
  Contracts of package gcra at limiters that are nil, or zero.
-/
import Derived.Test.YtgookddningjpaaRefG
set_option linter.unusedVariables false
set_option linter.unusedSimpArgs false
namespace Go.Proofs.Ytgookddningjpaa
open Go.RowKit

/-- a zero limiter at block k -/
def RawL (w : World) (k : Nat) : Prop := Blk w k 60 #[.bool false, .int .i64 0, .int .i64 0, .int .i64 0, .int .i64 0, .bool false]
/-- what the pointer p points at: nothing, or a zero limiter -/
def NilOr (w : World) (p : Option Addr) : Prop := p = none ∨ ∃ k, p = some ⟨k, 0, none⟩ ∧ RawL w k
theorem NilOr.g {a b : World} {p : Option Addr} (h : NilOr a p) (g : G a b) : NilOr b p := by
  rcases h with h | ⟨k, e, h⟩
  · exact .inl h
  · exact .inr ⟨k, e, h.g g⟩
set_option maxHeartbeats 400000 in
theorem ncheck (p : Option Addr) (now : Int) (w : World) (hp : NilOr w p) :
    Calls Try.prog 44 #[.pointer p, .int .i64 now] w fun e w' => e = .returned (.int .i64 1) ∧ G w w' := by
  rcases hp with rfl | ⟨k, rfl, h⟩
  · go_enter Try.func44, Try.ntmps44
    go_wp2_with fail
    go_ret
    exact ⟨rfl, (by repeat (first | exact G.refl _ | refine G.alloc ?_ _ | refine G.drewN ?_ _ | refine G.drew ?_ | refine G.trans ?_ (by assumption)))⟩
  · have c5 : w.cell? ⟨k, 5, none⟩ = some (.bool false) := h.cell 5
    go_enter Try.func44, Try.ntmps44
    go_wp2_with fail
    go_ret
    exact ⟨rfl, (by repeat (first | exact G.refl _ | refine G.alloc ?_ _ | refine G.drewN ?_ _ | refine G.drew ?_ | refine G.trans ?_ (by assumption)))⟩
set_option maxHeartbeats 400000 in
theorem nallows (p : Option Addr) (now : Int) (w : World) (hp : NilOr w p) :
    Calls Try.prog 22 #[.pointer p, .int .i64 now] w fun e w' => e = .returned (.bool false) ∧ G w w' := by
  go_enter Try.func22, Try.ntmps22
  go_wp2_with fail
  refine (ncheck p now _ hp).mono ?_
  rintro e w2 ⟨rfl, g2⟩
  go_wp2_with fail
  go_ret
  exact ⟨rfl, g2⟩
set_option maxHeartbeats 400000 in
theorem ntake (p : Option Addr) (now : Int) (w : World) (hp : NilOr w p) :
    Calls Try.prog 21 #[.pointer p, .int .i64 now] w fun e w' => e = .returned (.int .i64 1) ∧ G w w' := by
  go_enter Try.func21, Try.ntmps21
  go_wp2_with fail
  refine (ncheck p now _ hp).mono ?_
  rintro e w2 ⟨rfl, g2⟩
  go_wp2_with fail
  go_ret
  exact ⟨rfl, g2⟩
set_option maxHeartbeats 400000 in
theorem nnext (p : Option Addr) (now : Int) (w : World) (hp : NilOr w p) :
    Calls Try.prog 28 #[.pointer p, .int .i64 now] w fun e w' => e = .returned (.tuple #[.int .i64 0, .int .i64 1]) ∧ G w w' := by
  rcases hp with rfl | ⟨k, rfl, h⟩
  · go_enter Try.func28, Try.ntmps28
    go_wp2_with fail
    go_ret2
    exact ⟨rfl, (by repeat (first | exact G.refl _ | refine G.alloc ?_ _ | refine G.drewN ?_ _ | refine G.drew ?_ | refine G.trans ?_ (by assumption)))⟩
  · have c5 : w.cell? ⟨k, 5, none⟩ = some (.bool false) := h.cell 5
    go_enter Try.func28, Try.ntmps28
    go_wp2_with fail
    go_ret2
    exact ⟨rfl, (by repeat (first | exact G.refl _ | refine G.alloc ?_ _ | refine G.drewN ?_ _ | refine G.drew ?_ | refine G.trans ?_ (by assumption)))⟩
set_option maxHeartbeats 400000 in
theorem ntat (p : Option Addr) (w : World) (hp : NilOr w p) :
    Calls Try.prog 29 #[.pointer p] w fun e w' => e = .returned (.tuple #[.int .i64 0, .bool false]) ∧ G w w' := by
  rcases hp with rfl | ⟨k, rfl, h⟩
  · go_enter Try.func29, Try.ntmps29
    go_wp2_with fail
    go_ret2
    exact ⟨rfl, (by repeat (first | exact G.refl _ | refine G.alloc ?_ _ | refine G.drewN ?_ _ | refine G.drew ?_ | refine G.trans ?_ (by assumption)))⟩
  · have c0 : w.cell? ⟨k, 0, none⟩ = some (.bool false) := h.cell 0
    have c1 : w.cell? ⟨k, 1, none⟩ = some (.int .i64 0) := h.cell 1
    have ha : Calls Try.prog 47 #[.pointer (some ⟨k, 0, none⟩)] w fun e w' => e = .returned (.tuple #[.int .i64 0, .bool false]) ∧ G w w' := by
      go_enter Try.func47, Try.ntmps47
      go_wp2_with fail
      go_quiet (fail)
      go_wp2_with fail
      go_ret2
      exact ⟨rfl, (by repeat (first | exact G.refl _ | refine G.alloc ?_ _ | refine G.drewN ?_ _ | refine G.drew ?_ | refine G.trans ?_ (by assumption)))⟩
    go_enter Try.func29, Try.ntmps29
    go_wp2_with fail
    refine ha.mono ?_
    rintro e w1 ⟨rfl, g1⟩
    go_wp2_with fail
    go_ret2
    exact ⟨rfl, g1⟩
set_option maxHeartbeats 400000 in
theorem nlimit (p : Option Addr) (w : World) (hp : NilOr w p) :
    Calls Try.prog 26 #[.pointer p] w fun e w' => e = .returned (.agg #[.int .i64 0, .int .i64 0]) ∧ G w w' := by
  rcases hp with rfl | ⟨k, rfl, h⟩
  · exact limit_nil w
  · have hb2 := h.alloc (.cells #[.int .i64 0, .int .i64 0] 24)
    have c3 : (w.alloc (.cells #[.int .i64 0, .int .i64 0] 24)).cell? ⟨k, 3, none⟩ = some (.int .i64 0) := hb2.cell 3
    have c4 : (w.alloc (.cells #[.int .i64 0, .int .i64 0] 24)).cell? ⟨k, 4, none⟩ = some (.int .i64 0) := hb2.cell 4
    go_enter Try.func26, Try.ntmps26
    go_wp2_with fail
    refine bodyPost_ret (v := .agg #[.int .i64 0, .int .i64 0]) (by simp [results, Try.results26, go_sem]) rfl ⟨rfl, (by repeat (first | exact G.refl _ | refine G.alloc ?_ _ | refine G.drewN ?_ _ | refine G.drew ?_ | refine G.trans ?_ (by assumption)))⟩
set_option maxHeartbeats 400000 in
theorem ncopy (p : Option Addr) (w : World) (hp : NilOr w p) :
    Calls Try.prog 30 #[.pointer p] w fun e w' => e = .returned (.pointer none) ∧ G w w' := by
  rcases hp with rfl | ⟨k, rfl, h⟩
  · go_enter Try.func30, Try.ntmps30
    go_wp2_with fail
    go_ret
    exact ⟨rfl, (by repeat (first | exact G.refl _ | refine G.alloc ?_ _ | refine G.drewN ?_ _ | refine G.drew ?_ | refine G.trans ?_ (by assumption)))⟩
  · have c5 : w.cell? ⟨k, 5, none⟩ = some (.bool false) := h.cell 5
    go_enter Try.func30, Try.ntmps30
    go_wp2_with fail
    go_ret
    exact ⟨rfl, (by repeat (first | exact G.refl _ | refine G.alloc ?_ _ | refine G.drewN ?_ _ | refine G.drew ?_ | refine G.trans ?_ (by assumption)))⟩
end Go.Proofs.Ytgookddningjpaa
