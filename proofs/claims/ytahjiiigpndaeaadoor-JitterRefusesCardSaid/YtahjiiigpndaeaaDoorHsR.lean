/-
  The document's Mix and Below; the place of a name.
-/
import Derived.Test.YtahjiiigpndaeaaDoorHsF
import Derived.Test.YtahjiiigpndaeaaDoorMixC
set_option linter.unusedVariables false
set_option linter.unusedSimpArgs false
namespace Go.Proofs.YtahjiiigpndaeaaDoor
open Go.RowKit Go.Lib

theorem thereI_one (s x : Int) (h0 : 0 ≤ shI s x) (h1 : shI s x < 18446744073709551616) : thereI s 1 x = shI s x := by
  unfold thereI; rw [IntKind.wrap_u64]; omega
theorem shI_bd (s x : Int) : 0 ≤ shI s x ∧ shI s x < 18446744073709551616 := by
  unfold shI bits; simp only [IntKind.wrap_u64]; omega
set_option maxHeartbeats 400000 in
theorem rmix_any (x : Int) (h0 : 0 ≤ x) (h1 : x < 18446744073709551616) (w : World) :
    Calls Tryd.prog 55 #[.int .u64 x] w fun e w' => e = .returned (.int .u64 (mixI x)) ∧ w' = w := by
  go_enter Tryd.func55, Tryd.ntmps55
  go_wp2
  go_ret
  exact ⟨by rw [mixI, thereI_one _ _ (shI_bd _ _).1 (shI_bd _ _).2]; rfl, rfl⟩
set_option maxHeartbeats 1000000 in
theorem rbelow_nat (x y : Nat) (hx : x < 18446744073709551616) (hy : y < 18446744073709551616) (hy0 : 0 < y) (w : World) :
    Calls Tryd.prog 54 #[.int .u64 x, .int .u64 y] w fun e w' => e = .returned (.tuple #[.int .u64 ((x * y / 18446744073709551616 : Nat) : Int), .int .i64 0]) ∧ w' = w := by
  obtain ⟨bd, bt, bw, hhi⟩ := Lib.mul64_hi x y hx hy
  have ba := Lib.half_mul_le (a := x / 4294967296) (b := y / 4294967296) (by omega) (by omega)
  have bb := Lib.half_mul_le (a := x / 4294967296) (b := y % 4294967296) (by omega) (by omega)
  have bc := Lib.half_mul_le (a := x % 4294967296) (b := y / 4294967296) (by omega) (by omega)
  have ba' : x / 4294967296 * (y / 4294967296) < 18446744073709551616 := by omega
  have bb' : x / 4294967296 * (y % 4294967296) < 18446744073709551616 := by omega
  have bc' : x % 4294967296 * (y / 4294967296) < 18446744073709551616 := by omega
  have bh1 : x / 4294967296 * (y / 4294967296) + (x / 4294967296 * (y % 4294967296) + x % 4294967296 * (y % 4294967296) / 4294967296) / 4294967296 < 18446744073709551616 := by omega
  have bh : x / 4294967296 * (y / 4294967296) + (x / 4294967296 * (y % 4294967296) + x % 4294967296 * (y % 4294967296) / 4294967296) / 4294967296 + ((x / 4294967296 * (y % 4294967296) + x % 4294967296 * (y % 4294967296) / 4294967296) % 4294967296 + x % 4294967296 * (y / 4294967296)) / 4294967296 < 18446744073709551616 := by omega
  rw [Nat.add_comm ((x / 4294967296 * (y % 4294967296) + x % 4294967296 * (y % 4294967296) / 4294967296) % 4294967296)] at bw bh hhi
  go_enter Tryd.func54, Tryd.ntmps54
  go_wp2
  simp only [maskN x hx, maskN y hy, divN, mulN, addN, wrapN _ bd, wrapN _ bb', wrapN _ bt, maskN _ bt, wrapN _ bc', wrapN _ bw, wrapN _ ba', wrapN _ bh1, wrapN _ bh]
  rw [hhi]
  go_ret2
  exact ⟨rfl, rfl⟩
theorem rbelow_any (x n : Int) (hx0 : 0 ≤ x) (hx : x < 18446744073709551616) (hn0 : 0 < n) (hn : n < 18446744073709551616) (w : World) :
    Calls Tryd.prog 54 #[.int .u64 x, .int .u64 n] w fun e w' => e = .returned (.tuple #[.int .u64 (hiI x n), .int .i64 0]) ∧ w' = w := by
  obtain ⟨x, rfl⟩ := Int.eq_ofNat_of_zero_le hx0
  obtain ⟨n, rfl⟩ := Int.eq_ofNat_of_zero_le (Int.le_of_lt hn0)
  have e1 : hiI (x : Int) (n : Int) = ((x * n / 18446744073709551616 : Nat) : Int) := by unfold hiI; rw [mulN]; omega
  rw [e1]
  exact rbelow_nat x n (by omega) (by omega) (by omega) w
theorem hiI_bd (x y : Int) (hx0 : 0 ≤ x) (hx : x < 18446744073709551616) (hy : 0 < y) : 0 ≤ hiI x y ∧ hiI x y < y := by
  unfold hiI
  constructor
  · exact Int.ediv_nonneg (Int.mul_nonneg hx0 (by omega)) (by decide)
  · apply Int.ediv_lt_of_lt_mul (by decide)
    rw [Int.mul_comm]
    exact Int.mul_lt_mul_of_pos_left hx hy

/-- the place of a name -/
def placeI (a n : Int) (s : ByteArray) : Int := hiI (mixI (hN (sumS s) (wrap64 a))) n
theorem mixI_u (x : Int) : 0 ≤ mixI x ∧ mixI x < 18446744073709551616 := mixI_bd x
theorem placeI_bd (a n : Int) (s : ByteArray) (hn : 0 < n) : 0 ≤ placeI a n s ∧ placeI a n s < n := hiI_bd _ n (mixI_u _).1 (mixI_u _).2 hn
end Go.Proofs.YtahjiiigpndaeaaDoor
