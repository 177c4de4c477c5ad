/-
  The sequence of a seed, in plain Lean: shifts, and that different indexes have different numbers.
-/
import Derived.Test.YtelilcpbckecbaaDoorMixU
set_option linter.unusedVariables false
set_option linter.unusedSimpArgs false
namespace Go.Proofs.YtelilcpbckecbaaDoor
open Go.RowKit
def GA : W64 := 0x9E3779B97F4A7C15#64
def GI : W64 := 0xf1de83e19937733d#64
theorem gaInv : GA * GI = 1#64 := by decide
theorem GA_un : (11400714819323198485 : Int) = un GA := by decide
theorem one_un : (1 : Int) = un 1#64 := by decide
theorem atI_un (s n : W64) : atI (un s) (un n) = un (mixB (s + (n + 1#64) * GA)) := by
  unfold atI; rw [GA_un, one_un, un_wrap_add, un_wrap_mul, un_wrap_add, mixI_un]
theorem at_shift (s n : Int) (h0 : 0 ≤ s) (h1 : s < 18446744073709551616) (k0 : 0 ≤ n) (k1 : n < 18446744073709551616) : atI (IntKind.u64.wrap (s + 11400714819323198485)) n = atI s (IntKind.u64.wrap (n + 1)) := by
  rw [← un_bv s h0 h1, ← un_bv n k0 k1, GA_un, un_wrap_add, one_un, un_wrap_add, atI_un, atI_un, BitVec.add_mul (x := bv n + 1#64), BitVec.one_mul, BitVec.add_assoc, BitVec.add_comm GA]
theorem skip_next (s n : Int) (h0 : 0 ≤ s) (h1 : s < 18446744073709551616) (k0 : 0 ≤ n) (k1 : n < 18446744073709551616) : mixI (IntKind.u64.wrap (IntKind.u64.wrap (s + IntKind.u64.wrap (n * 11400714819323198485)) + 11400714819323198485)) = atI s n := by
  rw [← un_bv s h0 h1, ← un_bv n k0 k1, GA_un, un_wrap_mul, un_wrap_add, un_wrap_add, mixI_un, atI_un, BitVec.add_mul, BitVec.one_mul, BitVec.add_assoc]
theorem skip_next2 (s n : Int) (h0 : 0 ≤ s) (h1 : s < 18446744073709551616) (k0 : 0 ≤ n) (k1 : n < 18446744073709551616) : mixI (IntKind.u64.wrap (IntKind.u64.wrap (IntKind.u64.wrap (s + IntKind.u64.wrap (n * 11400714819323198485)) + 11400714819323198485) + 11400714819323198485)) = atI s (IntKind.u64.wrap (n + 1)) := by
  rw [← un_bv s h0 h1, ← un_bv n k0 k1, GA_un, un_wrap_mul, un_wrap_add, un_wrap_add, un_wrap_add, one_un, un_wrap_add, mixI_un, atI_un, BitVec.add_mul, BitVec.add_mul, BitVec.one_mul, BitVec.add_assoc, BitVec.add_assoc, BitVec.add_assoc]
theorem at_inj (s n m : Int) (h0 : 0 ≤ s) (h1 : s < 18446744073709551616) (k0 : 0 ≤ n) (k1 : n < 18446744073709551616) (j0 : 0 ≤ m) (j1 : m < 18446744073709551616) : (atI s n == atI s m) = (n == m) := by
  rw [Bool.eq_iff_iff]; simp only [beq_iff_eq]
  constructor
  · intro h
    rw [← un_bv s h0 h1, ← un_bv n k0 k1, ← un_bv m j0 j1, atI_un, atI_un] at h
    have h := un_inj h
    have h := congrArg unmixB h
    rw [unmix_mix, unmix_mix] at h
    have h : (bv n + 1#64) * GA = (bv m + 1#64) * GA := by
      have := congrArg (fun z => z - bv s) h
      simpa [BitVec.add_comm (bv s), BitVec.add_sub_cancel] using this
    have h := congrArg (fun z => z * GI) h
    simp only [BitVec.mul_assoc, gaInv, BitVec.mul_one] at h
    have h : bv n = bv m := by
      have := congrArg (fun z => z - 1#64) h
      simpa [BitVec.add_sub_cancel] using this
    rw [← un_bv n k0 k1, h, un_bv m j0 j1]
  · rintro rfl; rfl
end Go.Proofs.YtelilcpbckecbaaDoor
