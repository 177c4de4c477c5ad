/-
  Contracts of package mix: there, Mix, Mul64, Below, At, New, Next, Skip, Copy.
-/
import Derived.Test.YtahjiiigpndaeaaDoorBase
import Derived.Test.YtahjiiigpndaeaaDoorMixM
import Derived.Lib.Mul64
set_option linter.unusedVariables false
set_option linter.unusedSimpArgs false
namespace Go.Proofs.YtahjiiigpndaeaaDoor
open Go.RowKit Go.Lib

/-- The table of package mix holds its three rows. -/
def Tab (w : World) : Prop := 0 < w.heap.size ∧ w.cell? ⟨0, 0, none⟩ = some (.int .i64 30) ∧ w.cell? ⟨0, 1, none⟩ = some (.int .u64 13787848793156543929) ∧ w.cell? ⟨0, 2, none⟩ = some (.int .i64 27) ∧
  w.cell? ⟨0, 3, none⟩ = some (.int .u64 10723151780598845931) ∧ w.cell? ⟨0, 4, none⟩ = some (.int .i64 31) ∧ w.cell? ⟨0, 5, none⟩ = some (.int .u64 1)
theorem Tab.g {a b : World} (h : Tab a) (g : G a b) : Tab b := by
  obtain ⟨hz, c0, c1, c2, c3, c4, c5⟩ := h
  exact ⟨by have := g.size; omega, g.cell hz c0, g.cell hz c1, g.cell hz c2, g.cell hz c3, g.cell hz c4, g.cell hz c5⟩
theorem Tab.grown {a b : World} (h : Tab a) {k : Nat} (g : a.grownBy b (some k)) (hk : 0 < k) : Tab b := by
  obtain ⟨hz, c0, c1, c2, c3, c4, c5⟩ := h
  have hb : ∀ i v, a.cell? ⟨0, i, none⟩ = some v → b.cell? ⟨0, i, none⟩ = some v := fun i v hc => g.cell hc (by simp; omega)
  exact ⟨by have := g.size; omega, hb _ _ c0, hb _ _ c1, hb _ _ c2, hb _ _ c3, hb _ _ c4, hb _ _ c5⟩

abbrev stepsV : Value := .agg #[.int .i64 30, .int .u64 13787848793156543929, .int .i64 27, .int .u64 10723151780598845931, .int .i64 31, .int .u64 1]

set_option maxHeartbeats 400000 in
theorem there_any (s m x : Int) (h0 : 0 ≤ x) (h1 : x < 18446744073709551616) (hs0 : 0 ≤ s) (hs1 : s < 64) (w : World) :
    Calls Tryd.prog 46 #[.agg #[.int .i64 s, .int .u64 m], .int .u64 x] w fun e w' => e = .returned (.int .u64 (thereI s m x)) ∧ G w w' := by
  go_enter Tryd.func46, Tryd.ntmps46
  go_wp2
  go_quiet (fail)
  go_wp2
  go_ret
  exact ⟨rfl, G.drewN (G.alloc (G.refl _) _) _⟩

set_option maxHeartbeats 800000 in
theorem mix_any (x : Int) (h0 : 0 ≤ x) (h1 : x < 18446744073709551616) (w : World) (ht : Tab w) :
    Calls Tryd.prog 26 #[.int .u64 x] w fun e w' => e = .returned (.int .u64 (mixI x)) ∧ G w w' := by
  have i0 : ∀ w, (Instr.index 82 stepsV (.int .i64 0)).run Tryd.prog w = .ok (.agg #[.int .i64 30, .int .u64 13787848793156543929]) w := fun _ => by kernel_rfl
  have i1 : ∀ w, (Instr.index 82 stepsV (.int .i64 1)).run Tryd.prog w = .ok (.agg #[.int .i64 27, .int .u64 10723151780598845931]) w := fun _ => by kernel_rfl
  have i2 : ∀ w, (Instr.index 82 stepsV (.int .i64 2)).run Tryd.prog w = .ok (.agg #[.int .i64 31, .int .u64 1]) w := fun _ => by kernel_rfl
  have b1 := thereI_bd 30 13787848793156543929 x
  have b2 := thereI_bd 27 10723151780598845931 (thereI 30 13787848793156543929 x)
  obtain ⟨hz, c0, c1, c2, c3, c4, c5⟩ := ht
  go_enter Tryd.func26, Tryd.ntmps26
  go_wp2
  refine wp_loop_rounds 4 ?_
  rw [rounds_succ]
  go_wp2_with fail
  refine (there_any 30 _ x h0 h1 (by decide) (by decide) _).mono ?_
  rintro e w1 ⟨rfl, g1⟩
  go_wp2_with fail
  rw [rounds_succ]
  go_wp2_with fail
  refine (there_any 27 _ _ b1.1 b1.2 (by decide) (by decide) _).mono ?_
  rintro e w2 ⟨rfl, g2⟩
  go_wp2_with fail
  rw [rounds_succ]
  go_wp2_with fail
  refine (there_any 31 _ _ b2.1 b2.2 (by decide) (by decide) _).mono ?_
  rintro e w3 ⟨rfl, g3⟩
  go_wp2_with fail
  rw [rounds_succ]
  go_wp2_with fail
  go_ret
  exact ⟨rfl, (by repeat (first | exact G.refl _ | refine G.alloc ?_ _ | refine G.drewN ?_ _ | refine G.drew ?_ | refine G.trans ?_ (by assumption)))⟩

/-! ### bits.Mul64: both halves -/
theorem maskN (a : Nat) (ha : a < 18446744073709551616) : bits .and .u64 (a : Int) 4294967295 = ((a % 4294967296 : Nat) : Int) := by
  have h := bits_and_u64_nat a 4294967295 ha (by omega)
  rw [show a &&& 4294967295 = a % 4294967296 from Nat.and_two_pow_sub_one_eq_mod a 32] at h
  exact h
theorem divN (a : Nat) : (a : Int) / 4294967296 = ((a / 4294967296 : Nat) : Int) := by omega
theorem mulN (a b : Nat) : (a : Int) * (b : Int) = ((a * b : Nat) : Int) := (Int.natCast_mul a b).symm
theorem addN (a b : Nat) : (a : Int) + (b : Int) = ((a + b : Nat) : Int) := (Int.natCast_add a b).symm
theorem wrapN (a : Nat) (ha : a < 18446744073709551616) : IntKind.u64.wrap (a : Int) = (a : Int) := by rw [IntKind.wrap_u64]; omega
theorem wrapM (a : Nat) : IntKind.u64.wrap (a : Int) = ((a % 18446744073709551616 : Nat) : Int) := by rw [IntKind.wrap_u64]; omega

set_option maxHeartbeats 1000000 in
theorem mul64_nat (x y : Nat) (hx : x < 18446744073709551616) (hy : y < 18446744073709551616) (w : World) :
    Calls Tryd.prog 45 #[.int .u64 x, .int .u64 y] w fun e w' => e = .returned (.tuple #[.int .u64 ((x * y / 18446744073709551616 : Nat) : Int), .int .u64 ((x * y % 18446744073709551616 : Nat) : Int)]) ∧ w = w' := by
  obtain ⟨bd, bt, bw, hhi⟩ := Lib.mul64_hi x y hx hy
  have ba := Lib.half_mul_le (a := x / 4294967296) (b := y / 4294967296) (by omega) (by omega)
  have bb := Lib.half_mul_le (a := x / 4294967296) (b := y % 4294967296) (by omega) (by omega)
  have bc := Lib.half_mul_le (a := x % 4294967296) (b := y / 4294967296) (by omega) (by omega)
  have ba' : x / 4294967296 * (y / 4294967296) < 18446744073709551616 := by omega
  have bb' : x / 4294967296 * (y % 4294967296) < 18446744073709551616 := by omega
  have bc' : x % 4294967296 * (y / 4294967296) < 18446744073709551616 := by omega
  have bh1 : x / 4294967296 * (y / 4294967296) + (x / 4294967296 * (y % 4294967296) + x % 4294967296 * (y % 4294967296) / 4294967296) / 4294967296 < 18446744073709551616 := by omega
  have bh : x / 4294967296 * (y / 4294967296) + (x / 4294967296 * (y % 4294967296) + x % 4294967296 * (y % 4294967296) / 4294967296) / 4294967296 + ((x / 4294967296 * (y % 4294967296) + x % 4294967296 * (y % 4294967296) / 4294967296) % 4294967296 + x % 4294967296 * (y / 4294967296)) / 4294967296 < 18446744073709551616 := by omega
  go_enter Tryd.func45, Tryd.ntmps45
  go_wp2
  simp only [maskN x hx, maskN y hy, divN, mulN, addN, wrapN _ bd, wrapN _ bb', wrapN _ bt, maskN _ bt, wrapN _ bc', wrapN _ bw, wrapN _ ba', wrapN _ bh1, wrapN _ bh, wrapM (x * y)]
  rw [hhi]
  go_ret2
  exact ⟨rfl, rfl⟩

/-- the upper half of a product -/
def hiI (x y : Int) : Int := x * y / 18446744073709551616
def loI (x y : Int) : Int := x * y % 18446744073709551616
theorem mul64_any (x y : Int) (hx0 : 0 ≤ x) (hx : x < 18446744073709551616) (hy0 : 0 ≤ y) (hy : y < 18446744073709551616) (w : World) :
    Calls Tryd.prog 45 #[.int .u64 x, .int .u64 y] w fun e w' => e = .returned (.tuple #[.int .u64 (hiI x y), .int .u64 (loI x y)]) ∧ w = w' := by
  obtain ⟨x, rfl⟩ := Int.eq_ofNat_of_zero_le hx0
  obtain ⟨y, rfl⟩ := Int.eq_ofNat_of_zero_le hy0
  have e1 : hiI (x : Int) (y : Int) = ((x * y / 18446744073709551616 : Nat) : Int) := by unfold hiI; rw [mulN]; omega
  have e2 : loI (x : Int) (y : Int) = ((x * y % 18446744073709551616 : Nat) : Int) := by unfold loI; rw [mulN]; omega
  rw [e1, e2]
  exact mul64_nat x y (by omega) (by omega) w

set_option maxHeartbeats 400000 in
theorem below_zero (x : Int) (w : World) :
    Calls Tryd.prog 25 #[.int .u64 x, .int .u64 0] w fun e w' => e = .returned (.tuple #[.int .u64 0, .int .i64 2]) ∧ w = w' := by
  go_enter Tryd.func25, Tryd.ntmps25
  go_wp2
  go_ret2
  exact ⟨rfl, rfl⟩
set_option maxHeartbeats 400000 in
theorem below_any (x n : Int) (hx0 : 0 ≤ x) (hx : x < 18446744073709551616) (hn0 : 0 < n) (hn : n < 18446744073709551616) (w : World) :
    Calls Tryd.prog 25 #[.int .u64 x, .int .u64 n] w fun e w' => e = .returned (.tuple #[.int .u64 (hiI x n), .int .i64 0]) ∧ w = w' := by
  go_enter Tryd.func25, Tryd.ntmps25
  go_wp2_with fail
  refine (mul64_any x n hx0 hx (by omega) hn _).mono ?_
  rintro e w1 ⟨rfl, rfl⟩
  go_wp2_with fail
  go_ret2
  exact ⟨rfl, rfl⟩
end Go.Proofs.YtahjiiigpndaeaaDoor
