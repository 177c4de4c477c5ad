/-
  The numbers of package mix, in plain Lean: what the walks compute (over Int), and that it is one to one (over BitVec 64).
-/
import Derived.Laws.Bits64
import Derived.Laws.Bits64b
import Derived.Laws.BitsAllLaws
set_option linter.unusedVariables false
set_option linter.unusedSimpArgs false
namespace Go.Proofs.YtahjiiigpndaeaaDoor
open Go

/-- one step: combine with itself shifted, multiply -/
def shI (s x : Int) : Int := bits BinOp.xor IntKind.u64 x (x / 2 ^ s.toNat)
def thereI (s m x : Int) : Int := IntKind.u64.wrap (shI s x * m)
def mixI (x : Int) : Int := thereI 31 1 (thereI 27 10723151780598845931 (thereI 30 13787848793156543929 x))
theorem thereI_bd (s m x : Int) : 0 ≤ thereI s m x ∧ thereI s m x < 18446744073709551616 := by
  unfold thereI; rw [IntKind.wrap_u64]; omega
theorem mixI_bd (x : Int) : 0 ≤ mixI x ∧ mixI x < 18446744073709551616 := thereI_bd _ _ _

/-! ### over BitVec 64 -/
abbrev W64 := BitVec 64
def bv (x : Int) : W64 := BitVec.ofInt 64 x
def un (x : W64) : Int := (x.toNat : Int)
theorem un_bd (x : W64) : 0 ≤ un x ∧ un x < 18446744073709551616 := by unfold un; have := x.isLt; omega
theorem bv_un (x : W64) : bv (un x) = x := by
  unfold bv un; rw [BitVec.ofInt_natCast]; simp
theorem un_bv (x : Int) (h0 : 0 ≤ x) (h1 : x < 18446744073709551616) : un (bv x) = x := by
  obtain ⟨n, rfl⟩ := Int.eq_ofNat_of_zero_le h0
  unfold bv un; rw [BitVec.ofInt_natCast, BitVec.toNat_ofNat]; omega
theorem un_inj {x y : W64} (h : un x = un y) : x = y := by rw [← bv_un x, h, bv_un]
def sh (s : Nat) (x : W64) : W64 := x ^^^ (x >>> s)
def un2 (s : Nat) (y : W64) : W64 := y ^^^ ((y ^^^ (y >>> s)) >>> s)
theorem ushr_zero (s : Nat) (hs : 64 ≤ s) (x : W64) : x >>> s = 0#64 := by
  apply BitVec.eq_of_toNat_eq
  simp [BitVec.toNat_ushiftRight]
  rw [Nat.shiftRight_eq_div_pow]
  exact Nat.div_eq_of_lt (Nat.lt_of_lt_of_le x.isLt (Nat.pow_le_pow_right (by decide) (by omega)))
theorem un2_sh (s : Nat) (hs : 64 ≤ s * 3) (x : W64) : un2 s (sh s x) = x := by
  unfold un2 sh
  simp only [BitVec.ushiftRight_xor_distrib, ← BitVec.shiftRight_add]
  rw [ushr_zero (s + s + s) (by omega) x]
  generalize x >>> (s + s) = c
  generalize x >>> s = b
  apply BitVec.eq_of_getLsbD_eq
  intro i hi
  simp
theorem sh_un2 (s : Nat) (hs : 64 ≤ s * 3) (x : W64) : sh s (un2 s x) = x := by
  unfold un2 sh
  simp only [BitVec.ushiftRight_xor_distrib, ← BitVec.shiftRight_add]
  rw [ushr_zero (s + s + s) (by omega) x]
  generalize x >>> (s + s) = c
  generalize x >>> s = b
  apply BitVec.eq_of_getLsbD_eq
  intro i hi
  simp
def C1 : W64 := 0xBF58476D1CE4E5B9#64
def C2 : W64 := 0x94D049BB133111EB#64
def D1 : W64 := 0x96de1b173f119089#64
def D2 : W64 := 0x319642b2d24d8ec3#64
theorem inv1 : C1 * D1 = 1#64 := by decide
theorem inv2 : C2 * D2 = 1#64 := by decide
def mixB (x : W64) : W64 := sh 31 (sh 27 (sh 30 x * C1) * C2)
def unmixB (x : W64) : W64 := un2 30 (un2 27 (un2 31 x * D2) * D1)
theorem unmix_mix (x : W64) : unmixB (mixB x) = x := by
  unfold unmixB mixB
  rw [un2_sh 31 (by decide), BitVec.mul_assoc, inv2, BitVec.mul_one, un2_sh 27 (by decide), BitVec.mul_assoc, inv1, BitVec.mul_one, un2_sh 30 (by decide)]
theorem mix_unmix (x : W64) : mixB (unmixB x) = x := by
  unfold unmixB mixB
  rw [sh_un2 30 (by decide), BitVec.mul_assoc, BitVec.mul_comm D1, inv1, BitVec.mul_one, sh_un2 27 (by decide), BitVec.mul_assoc, BitVec.mul_comm D2, inv2, BitVec.mul_one, sh_un2 31 (by decide)]

/-! ### the walk's forms, over BitVec -/
theorem un_shr (s : Nat) (x : W64) : un x / 2 ^ s = un (x >>> s) := by
  unfold un; rw [BitVec.toNat_ushiftRight, Nat.shiftRight_eq_div_pow]
  have : ((2 : Int) ^ s) = ((2 ^ s : Nat) : Int) := by norm_cast
  rw [this]; exact (Int.natCast_ediv _ _).symm
theorem un_xor (x y : W64) : bits BinOp.xor IntKind.u64 (un x) (un y) = un (x ^^^ y) := by
  unfold un; rw [bits_xor_u64_nat _ _ x.isLt y.isLt, BitVec.toNat_xor]
theorem un_wrap_mul (x y : W64) : IntKind.u64.wrap (un x * un y) = un (x * y) := by
  unfold un; rw [IntKind.wrap_u64, BitVec.toNat_mul]
  have : ((x.toNat : Int) * (y.toNat : Int)) = ((x.toNat * y.toNat : Nat) : Int) := by norm_cast
  rw [this]; omega
theorem un_wrap_add (x y : W64) : IntKind.u64.wrap (un x + un y) = un (x + y) := by
  unfold un; rw [IntKind.wrap_u64, BitVec.toNat_add]; omega
theorem un_wrap_sub (x y : W64) : IntKind.u64.wrap (un x - un y) = un (x - y) := by
  unfold un; rw [IntKind.wrap_u64, BitVec.toNat_sub]; have := x.isLt; have := y.isLt; omega
theorem un_lit (n : Nat) (h : n < 18446744073709551616) : (n : Int) = un (BitVec.ofNat 64 n) := by
  unfold un; rw [BitVec.toNat_ofNat]; omega
theorem thereI_un (s : Nat) (m x : W64) : thereI s (un m) (un x) = un (sh s x * m) := by
  unfold thereI shI sh; rw [Int.toNat_natCast, un_shr, un_xor, un_wrap_mul]
theorem mixI_un (x : W64) : mixI (un x) = un (mixB x) := by
  unfold mixI mixB
  have e1 : (13787848793156543929 : Int) = un C1 := by decide
  have e2 : (10723151780598845931 : Int) = un C2 := by decide
  have e3 : (1 : Int) = un 1#64 := by decide
  rw [e1, show (30 : Int) = ((30 : Nat) : Int) from rfl, thereI_un, e2, show (27 : Int) = ((27 : Nat) : Int) from rfl, thereI_un, e3, show (31 : Int) = ((31 : Nat) : Int) from rfl, thereI_un, BitVec.mul_one]
end Go.Proofs.YtahjiiigpndaeaaDoor
