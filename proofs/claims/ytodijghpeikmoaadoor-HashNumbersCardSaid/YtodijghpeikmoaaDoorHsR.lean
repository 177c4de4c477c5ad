/-
  The document's Mix and Below; the place of a name.
-/
import Derived.Test.YtodijghpeikmoaaDoorHsG
import Derived.Test.YtodijghpeikmoaaDoorMixC
set_option linter.unusedVariables false
set_option linter.unusedSimpArgs false
namespace Go.Proofs.YtodijghpeikmoaaDoor
open Go.RowKit Go.Lib

theorem thereI_one (s x : Int) (h0 : 0 ≤ shI s x) (h1 : shI s x < 18446744073709551616) : thereI s 1 x = shI s x := by
  unfold thereI; rw [IntKind.wrap_u64]; omega
theorem shI_bd (s x : Int) : 0 ≤ shI s x ∧ shI s x < 18446744073709551616 := by
  unfold shI bits; simp only [IntKind.wrap_u64]; omega
set_option maxHeartbeats 400000 in
theorem rmix_any (x : Int) (h0 : 0 ≤ x) (h1 : x < 18446744073709551616) (w : World) :
    Calls Tryd.prog 43 #[.int .u64 x] w fun e w' => e = .returned (.int .u64 (mixI x)) ∧ w' = w := by
  go_enter Tryd.func43, Tryd.ntmps43
  go_wp2
  go_ret
  exact ⟨by rw [mixI, thereI_one _ _ (shI_bd _ _).1 (shI_bd _ _).2]; rfl, rfl⟩
set_option maxHeartbeats 1000000 in
theorem rbelow_nat (x y : Nat) (hx : x < 18446744073709551616) (hy : y < 18446744073709551616) (hy0 : 0 < y) (w : World) :
    Calls Tryd.prog 42 #[.int .u64 x, .int .u64 y] w fun e w' => e = .returned (.tuple #[.int .u64 ((x * y / 18446744073709551616 : Nat) : Int), .int .i64 0]) ∧ w' = w := by
  obtain ⟨bd, bt, bw, hhi⟩ := Lib.mul64_hi x y hx hy
  have ba := Lib.half_mul_le (a := x / 4294967296) (b := y / 4294967296) (by omega) (by omega)
  have bb := Lib.half_mul_le (a := x / 4294967296) (b := y % 4294967296) (by omega) (by omega)
  have bc := Lib.half_mul_le (a := x % 4294967296) (b := y / 4294967296) (by omega) (by omega)
  have ba' : x / 4294967296 * (y / 4294967296) < 18446744073709551616 := by omega
  have bb' : x / 4294967296 * (y % 4294967296) < 18446744073709551616 := by omega
  have bc' : x % 4294967296 * (y / 4294967296) < 18446744073709551616 := by omega
  have bh1 : x / 4294967296 * (y / 4294967296) + (x / 4294967296 * (y % 4294967296) + x % 4294967296 * (y % 4294967296) / 4294967296) / 4294967296 < 18446744073709551616 := by omega
  have bh : x / 4294967296 * (y / 4294967296) + (x / 4294967296 * (y % 4294967296) + x % 4294967296 * (y % 4294967296) / 4294967296) / 4294967296 + ((x / 4294967296 * (y % 4294967296) + x % 4294967296 * (y % 4294967296) / 4294967296) % 4294967296 + x % 4294967296 * (y / 4294967296)) / 4294967296 < 18446744073709551616 := by omega
  rw [Nat.add_comm ((x / 4294967296 * (y % 4294967296) + x % 4294967296 * (y % 4294967296) / 4294967296) % 4294967296)] at bw bh hhi
  go_enter Tryd.func42, Tryd.ntmps42
  go_wp2
  simp only [maskN x hx, maskN y hy, divN, mulN, addN, wrapN _ bd, wrapN _ bb', wrapN _ bt, maskN _ bt, wrapN _ bc', wrapN _ bw, wrapN _ ba', wrapN _ bh1, wrapN _ bh]
  rw [hhi]
  go_ret2
  exact ⟨rfl, rfl⟩
theorem rbelow_any (x n : Int) (hx0 : 0 ≤ x) (hx : x < 18446744073709551616) (hn0 : 0 < n) (hn : n < 18446744073709551616) (w : World) :
    Calls Tryd.prog 42 #[.int .u64 x, .int .u64 n] w fun e w' => e = .returned (.tuple #[.int .u64 (hiI x n), .int .i64 0]) ∧ w' = w := by
  obtain ⟨x, rfl⟩ := Int.eq_ofNat_of_zero_le hx0
  obtain ⟨n, rfl⟩ := Int.eq_ofNat_of_zero_le (Int.le_of_lt hn0)
  have e1 : hiI (x : Int) (n : Int) = ((x * n / 18446744073709551616 : Nat) : Int) := by unfold hiI; rw [mulN]; omega
  rw [e1]
  exact rbelow_nat x n (by omega) (by omega) (by omega) w
theorem hiI_bd (x y : Int) (hx0 : 0 ≤ x) (hx : x < 18446744073709551616) (hy : 0 < y) : 0 ≤ hiI x y ∧ hiI x y < y := by
  unfold hiI
  constructor
  · exact Int.ediv_nonneg (Int.mul_nonneg hx0 (by omega)) (by decide)
  · apply Int.ediv_lt_of_lt_mul (by decide)
    rw [Int.mul_comm]
    exact Int.mul_lt_mul_of_pos_left hx hy

/-- the place of a name -/
def placeI (a n : Int) (s : ByteArray) : Int := hiI (mixI (hN (sumS s) (wrap64 a))) n
theorem mixI_u (x : Int) : 0 ≤ mixI x ∧ mixI x < 18446744073709551616 := mixI_bd x
theorem placeI_bd (a n : Int) (s : ByteArray) (hn : 0 < n) : 0 ≤ placeI a n s ∧ placeI a n s < n := hiI_bd _ n (mixI_u _).1 (mixI_u _).2 hn
set_option maxHeartbeats 1000000 in
theorem place_any (a n : Int) (s : ByteArray) (hn : 0 < n) (hn2 : n < 18446744073709551616) (hsz : s.size < 9223372036854775807) (w : World) :
    Calls Tryd.prog 33 #[.string s, .int .u64 a, .int .u64 n] w fun e w' => e = .returned (.int .u64 (placeI a n s)) ∧ G w w' := by
  have hw : -9223372036854775808 ≤ wrap64 a ∧ wrap64 a ≤ 9223372036854775807 := by unfold wrap64; omega
  go_enter Tryd.func33, Tryd.ntmps33
  go_wp2_with fail
  go_at_call 25
  refine (rsum_any s hsz _).mono ?_
  rintro e w1 ⟨rfl, g1⟩
  go_wp2_with fail
  go_at_call 27
  refine (rnumber_any _ _ (sumS_bd s) hw.1 hw.2 _).mono ?_
  rintro e w2 ⟨rfl, g2⟩
  go_wp2_with fail
  go_at_call 43
  refine (rmix_any _ (hN_bd (sumS_bd s) _).1 (hN_bd (sumS_bd s) _).2 _).mono ?_
  rintro e w3 ⟨rfl, rfl⟩
  go_wp2_with fail
  go_at_call 42
  refine (rbelow_any _ n (mixI_u _).1 (mixI_u _).2 hn hn2 _).mono ?_
  rintro e w4 ⟨rfl, rfl⟩
  go_wp2_with fail
  go_ret
  exact ⟨rfl, g1.trans g2⟩
set_option maxHeartbeats 400000 in
theorem places_any (A : Option Addr) (m c : Nat) (a n : Int) (w : World) :
    Calls Tryd.prog 31 #[.slice A m c, .int .u64 a, .int .u64 n] w fun e w' => e = .returned (.func (.func 40) #[] #[.pointer (some ⟨w.heap.size, 0, none⟩), .pointer (some ⟨w.heap.size + 1, 0, none⟩), .pointer (some ⟨w.heap.size + 1 + 1, 0, none⟩)]) ∧ w' = (((w.alloc (.cells #[.slice A m c] 22)).alloc (.cells #[.int .u64 a] 23)).alloc (.cells #[.int .u64 n] 23)) := by
  go_enter Tryd.func31, Tryd.ntmps31
  go_wp2_with fail
  go_ret
  exact ⟨rfl, rfl⟩
end Go.Proofs.YtodijghpeikmoaaDoor
