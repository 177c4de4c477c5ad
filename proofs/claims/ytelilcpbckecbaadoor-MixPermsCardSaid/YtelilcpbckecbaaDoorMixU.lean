/-
  Contracts of package mix: back and Unmix; and the references' numbers.
-/
import Derived.Test.YtelilcpbckecbaaDoorMixD
set_option linter.unusedVariables false
set_option linter.unusedSimpArgs false
namespace Go.Proofs.YtelilcpbckecbaaDoor
open Go.RowKit Go.Lib

def newtI (m v : Int) : Int := IntKind.u64.wrap (v * IntKind.u64.wrap (2 - IntKind.u64.wrap (m * v)))
def invI (m : Int) : Int := newtI m (newtI m (newtI m (newtI m (newtI m m))))
def xsI (s y o : Int) : Int := bits BinOp.xor IntKind.u64 y (o / 2 ^ s.toNat)
def backI (s m x : Int) : Int := xsI s (IntKind.u64.wrap (x * invI m)) (xsI s (IntKind.u64.wrap (x * invI m)) (IntKind.u64.wrap (x * invI m)))
theorem newtI_bd (m v : Int) : 0 ≤ newtI m v ∧ newtI m v < 18446744073709551616 := u64_bd _
theorem xsI_bd (s y o : Int) : 0 ≤ xsI s y o ∧ xsI s y o < 18446744073709551616 := by
  unfold xsI bits; simp only [IntKind.wrap_u64]; omega

theorem newtI_def (m v : Int) : IntKind.u64.wrap (v * IntKind.u64.wrap (2 - IntKind.u64.wrap (m * v))) = newtI m v := rfl
set_option maxHeartbeats 1000000 in
theorem back_any (s m x : Int) (h0 : 0 ≤ x) (h1 : x < 18446744073709551616) (hs : s = 30 ∨ s = 27 ∨ s = 31) (w : World) :
    Calls Tryd.prog 35 #[.agg #[.int .i64 s, .int .u64 m], .int .u64 x] w fun e w' => e = .returned (.int .u64 (backI s m x)) ∧ G w w' := by
  have hb := u64_bd (x * invI m)
  have hb1 := hb.1
  have hb2 := hb.2
  clear hb
  rcases hs with rfl | rfl | rfl
  all_goals
    go_enter Tryd.func35, Tryd.ntmps35
    go_wp2
    refine wp_loop_rounds 6 ?_
    iterate 6 (rw [rounds_succ]; go_wp2)
    simp only [newtI_def]
    rw [show newtI m (newtI m (newtI m (newtI m (newtI m m)))) = invI m from rfl]
    generalize hy : IntKind.u64.wrap (x * invI m) = y at hb1 hb2 ⊢
    have HY := Lib.hid hy
    clear hy
    refine wp_loop_rounds 3 ?_
    iterate 3 (rw [rounds_succ]; go_wp2)
    go_ret
    exact ⟨by unfold backI; rw [HY.out]; rfl, G.alloc (G.refl _) _⟩

def unmixI (x : Int) : Int := backI 30 13787848793156543929 (backI 27 10723151780598845931 (backI 31 1 x))
theorem backI_bd (s m x : Int) : 0 ≤ backI s m x ∧ backI s m x < 18446744073709551616 := xsI_bd _ _ _
theorem unmixI_bd (x : Int) : 0 ≤ unmixI x ∧ unmixI x < 18446744073709551616 := backI_bd _ _ _
set_option maxHeartbeats 1000000 in
theorem unmix_any (x : Int) (h0 : 0 ≤ x) (h1 : x < 18446744073709551616) (w : World) (ht : Tab w) :
    Calls Tryd.prog 31 #[.int .u64 x] w fun e w' => e = .returned (.int .u64 (unmixI x)) ∧ G w w' := by
  have b1 := backI_bd 31 1 x
  have b2 := backI_bd 27 10723151780598845931 (backI 31 1 x)
  have ht' := ht
  obtain ⟨hz, c0, c1, c2, c3, c4, c5⟩ := ht
  go_enter Tryd.func31, Tryd.ntmps31
  go_wp2
  refine wp_loop_rounds 4 ?_
  rw [rounds_succ]
  go_wp2_with fail
  refine (back_any 31 _ x h0 h1 (by decide) _).mono ?_
  rintro e w1 ⟨rfl, g1⟩
  obtain ⟨_, d0, d1, d2, d3, d4, d5⟩ := ht'.g g1
  go_wp2_with fail
  rw [rounds_succ]
  go_wp2_with fail
  refine (back_any 27 _ _ b1.1 b1.2 (by decide) _).mono ?_
  rintro e w2 ⟨rfl, g2⟩
  obtain ⟨_, e0, e1, e2, e3, e4, e5⟩ := (ht'.g g1).g g2
  go_wp2_with fail
  rw [rounds_succ]
  go_wp2_with fail
  refine (back_any 30 _ _ b2.1 b2.2 (by decide) _).mono ?_
  rintro e w3 ⟨rfl, g3⟩
  go_wp2_with fail
  rw [rounds_succ]
  go_wp2_with fail
  go_ret
  exact ⟨rfl, (by repeat (first | exact G.refl _ | refine G.alloc ?_ _ | refine G.drewN ?_ _ | refine G.drew ?_ | refine G.trans ?_ (by assumption)))⟩

/-! ### the plain law: Unmix of Mix, and Mix of Unmix -/
theorem newtI_un (m v : W64) : newtI (un m) (un v) = un (v * (2#64 - m * v)) := by
  unfold newtI; rw [un_wrap_mul, show (2 : Int) = un 2#64 by decide, un_wrap_sub, un_wrap_mul]
theorem xsI_un (s : Nat) (y o : W64) : xsI (s : Int) (un y) (un o) = un (y ^^^ (o >>> s)) := by
  unfold xsI; rw [Int.toNat_natCast, un_shr, un_xor]
theorem backI_un (s : Nat) (m x inv : W64) (hi : invI (un m) = un inv) : backI (s : Int) (un m) (un x) = un (un2 s (x * inv)) := by
  unfold backI un2; rw [hi, un_wrap_mul, xsI_un, xsI_un]
theorem invC1 : invI (un C1) = un D1 := by unfold invI; simp only [newtI_un]; decide
theorem invC2 : invI (un C2) = un D2 := by unfold invI; simp only [newtI_un]; decide
theorem invOne : invI (un 1#64) = un 1#64 := by unfold invI; simp only [newtI_un]; decide
theorem unmixI_un (x : W64) : unmixI (un x) = un (unmixB x) := by
  unfold unmixI unmixB
  have e1 : (13787848793156543929 : Int) = un C1 := by decide
  have e2 : (10723151780598845931 : Int) = un C2 := by decide
  have e3 : (1 : Int) = un 1#64 := by decide
  rw [e1, e2, e3, show (31 : Int) = ((31 : Nat) : Int) from rfl, backI_un 31 _ _ _ invOne, BitVec.mul_one, show (27 : Int) = ((27 : Nat) : Int) from rfl, backI_un 27 _ _ _ invC2, show (30 : Int) = ((30 : Nat) : Int) from rfl, backI_un 30 _ _ _ invC1]
theorem unmix_mixI (x : Int) (h0 : 0 ≤ x) (h1 : x < 18446744073709551616) : unmixI (mixI x) = x := by
  rw [← un_bv x h0 h1, mixI_un, unmixI_un, unmix_mix]
theorem mix_unmixI (x : Int) (h0 : 0 ≤ x) (h1 : x < 18446744073709551616) : mixI (unmixI x) = x := by
  rw [← un_bv x h0 h1, unmixI_un, mixI_un, mix_unmix]
theorem mixI_inj (x y : Int) (h0 : 0 ≤ x) (h1 : x < 18446744073709551616) (k0 : 0 ≤ y) (k1 : y < 18446744073709551616) (h : mixI x = mixI y) : x = y := by
  rw [← unmix_mixI x h0 h1, h, unmix_mixI y k0 k1]

end Go.Proofs.YtelilcpbckecbaaDoor
