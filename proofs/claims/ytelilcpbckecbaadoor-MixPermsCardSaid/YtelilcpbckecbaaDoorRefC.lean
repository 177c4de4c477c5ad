/-
  Contracts of the document's mix (wakemanref27): Mix, At, New, valid, Next, Skip, Below, unshift, inverse, Unmix.
-/
import Derived.Test.YtelilcpbckecbaaDoorAtM
set_option linter.unusedVariables false
set_option linter.unusedSimpArgs false
namespace Go.Proofs.YtelilcpbckecbaaDoor
open Go.RowKit Go.Lib

theorem thereI_one (s x : Int) (h0 : 0 ≤ shI s x) (h1 : shI s x < 18446744073709551616) : thereI s 1 x = shI s x := by
  unfold thereI; rw [IntKind.wrap_u64]; omega
theorem shI_bd (s x : Int) : 0 ≤ shI s x ∧ shI s x < 18446744073709551616 := by
  unfold shI bits; simp only [IntKind.wrap_u64]; omega
set_option maxHeartbeats 400000 in
theorem rmix_any (x : Int) (h0 : 0 ≤ x) (h1 : x < 18446744073709551616) (w : World) :
    Calls Tryd.prog 29 #[.int .u64 x] w fun e w' => e = .returned (.int .u64 (mixI x)) ∧ w' = w := by
  go_enter Tryd.func29, Tryd.ntmps29
  go_wp2
  go_ret
  exact ⟨by rw [mixI, thereI_one _ _ (shI_bd _ _).1 (shI_bd _ _).2]; rfl, rfl⟩
set_option maxHeartbeats 400000 in
theorem rat_any (s n : Int) (w : World) :
    Calls Tryd.prog 30 #[.int .u64 s, .int .u64 n] w fun e w' => e = .returned (.int .u64 (atI s n)) ∧ w' = w := by
  go_enter Tryd.func30, Tryd.ntmps30
  go_wp2_with fail
  refine (rmix_any _ (u64_bd _).1 (u64_bd _).2 _).mono ?_
  rintro e w1 ⟨rfl, rfl⟩
  go_wp2_with fail
  go_ret
  exact ⟨rfl, rfl⟩
def invStep (m o : Int) (k : Nat) : Int := if (bits BinOp.and IntKind.u64 (IntKind.u64.wrap (m * o) / 2 ^ k) 1 != bits BinOp.and IntKind.u64 (1 / 2 ^ k) 1) = true then bits BinOp.or IntKind.u64 o (IntKind.u64.wrap (2 ^ k)) else o
def invTo (m : Int) : Nat → Int
  | 0 => 0
  | k + 1 => invStep m (invTo m k) k
theorem invTo_bd (m : Int) (k : Nat) : 0 ≤ invTo m k ∧ invTo m k < 18446744073709551616 := by
  induction k with
  | zero => simp [invTo]
  | succ k ih =>
    rw [invTo]; unfold invStep
    split
    · unfold bits; simp only [IntKind.wrap_u64]; omega
    · exact ih
set_option maxHeartbeats 400000 in
theorem rinv_any (m : Int) (h0 : 0 ≤ m) (h1 : m < 18446744073709551616) (w : World) :
    Calls Tryd.prog 37 #[.int .u64 m] w fun e w' => e = .returned (.int .u64 (invTo m 64)) ∧ G w w' := by
  go_enter Tryd.func37, Tryd.ntmps37
  go_wp2_with fail
  go_loopw [3, 4] (fun o i wr => ∃ k : Nat, k ≤ 64 ∧ i = .int .i64 k ∧ o = .int .u64 (invTo m k) ∧ G w wr) (fun _ i _ => 64 - (intOf i).toNat)
  case atStart => exact ⟨0, by omega, rfl, rfl, G.refl _⟩
  case round =>
    obtain ⟨k, hk, rfl, rfl, hg⟩ := hrel
    have hstep : invTo m (k + 1) = invStep m (invTo m k) k := rfl
    obtain ⟨o0, o1⟩ := invTo_bd m k
    have HS := Lib.hid hstep
    clear hstep
    by_cases hlt : k < 64
    · generalize invTo m k = o at o0 o1 HS ⊢
      go_wp2_with fail
      go_quiet (fail)
      go_wp2_with fail
      all_goals go_roundw
      case rel => exact ⟨k + 1, by omega, by go_num, by rw [HS.out]; unfold invStep; rw [if_pos (by assumption)], (by repeat (first | exact G.refl _ | refine G.alloc ?_ _ | refine G.drewN ?_ _ | refine G.drew ?_ | refine G.trans ?_ (by assumption)))⟩
      case measure => simp [intOf]; omega
      case rel => exact ⟨k + 1, by omega, by go_num, by rw [HS.out]; unfold invStep; rw [if_neg (by simp [*])], (by repeat (first | exact G.refl _ | refine G.alloc ?_ _ | refine G.drewN ?_ _ | refine G.drew ?_ | refine G.trans ?_ (by assumption)))⟩
      case measure => simp [intOf]; omega
    · obtain rfl : k = 64 := by omega
      clear HS
      go_wp2_with fail
      go_ret
      exact ⟨rfl, hg⟩
def usBit (x o : Int) (s i : Nat) : Int := if i + s ≤ 63 then bits BinOp.xor IntKind.u64 (bits BinOp.and IntKind.u64 (x / 2 ^ i) 1) (bits BinOp.and IntKind.u64 (o / 2 ^ (i + s)) 1) else bits BinOp.and IntKind.u64 (x / 2 ^ i) 1
def usStep (x o : Int) (s i : Nat) : Int := bits BinOp.or IntKind.u64 o (IntKind.u64.wrap (usBit x o s i * 2 ^ i))
def usTo (x : Int) (s : Nat) : Nat → Int
  | 0 => 0
  | k + 1 => usStep x (usTo x s k) s (63 - k)
theorem usTo_bd (x : Int) (s k : Nat) : 0 ≤ usTo x s k ∧ usTo x s k < 18446744073709551616 := by
  cases k with
  | zero => simp [usTo]
  | succ k => rw [usTo]; unfold usStep bits; simp only [IntKind.wrap_u64]; omega
set_option maxHeartbeats 400000 in
theorem rush_any (x : Int) (s : Nat) (h0 : 0 ≤ x) (h1 : x < 18446744073709551616) (hs : s < 64) (w : World) :
    Calls Tryd.prog 36 #[.int .u64 x, .int .i64 s] w fun e w' => e = .returned (.int .u64 (usTo x s 64)) ∧ w' = w := by
  go_enter Tryd.func36, Tryd.ntmps36
  go_wp2_with fail
  go_loop [5, 6] (fun o i => ∃ k : Nat, k ≤ 64 ∧ i = .int .i64 (63 - (k : Int)) ∧ o = .int .u64 (usTo x s k)) (fun _ i => (intOf i + 1).toNat)
  case atStart => exact ⟨0, by omega, by go_num, rfl⟩
  case round =>
    obtain ⟨k, hk, rfl, rfl⟩ := hrel
    obtain ⟨o0, o1⟩ := usTo_bd x s k
    by_cases hlt : k < 64
    · have hstep : usTo x s (k + 1) = usStep x (usTo x s k) s (63 - k) := rfl
      obtain ⟨i, hi⟩ : ∃ i : Nat, 63 - (k : Int) = i := ⟨63 - k, by omega⟩
      rw [show 63 - k = i by omega] at hstep
      have HS := Lib.hid hstep
      clear hstep
      generalize usTo x s k = o at o0 o1 HS ⊢
      rw [hi]
      have hi2 : i < 64 := by omega
      have he : (i : Int) - 1 = 63 - ((k + 1 : Nat) : Int) := by omega
      have HE := Lib.hid he
      clear hi he
      by_cases hc : i + s ≤ 63
      · have hc' : (i : Int) + s ≤ 63 := by omega
        go_wp2_with fail
        go_round
        case rel =>
          rw [HE.out]
          exact ⟨k + 1, by omega, rfl, by rw [HS.out]; unfold usStep usBit; rw [if_pos hc]⟩
        case measure => simp [intOf] <;> omega
      · have hc' : 63 < (i : Int) + s := by omega
        go_wp2_with fail
        go_round
        case rel =>
          rw [HE.out]
          exact ⟨k + 1, by omega, rfl, by rw [HS.out]; unfold usStep usBit; rw [if_neg hc]⟩
        case measure => simp [intOf] <;> omega
    · obtain rfl : k = 64 := by omega
      go_wp2_with fail
      go_ret
      exact ⟨rfl, rfl⟩

/-! ### what they compute -/
theorem un_and (x y : W64) : bits BinOp.and IntKind.u64 (un x) (un y) = un (x &&& y) := by
  unfold un; rw [u64_and_nat _ _ x.isLt y.isLt, BitVec.toNat_and]
theorem un_or (x y : W64) : bits BinOp.or IntKind.u64 (un x) (un y) = un (x ||| y) := by
  unfold un; rw [u64_or_nat _ _ x.isLt y.isLt, BitVec.toNat_or]
theorem un_shl (s : Nat) (x : W64) : IntKind.u64.wrap (un x * 2 ^ s) = un (x <<< s) := by
  unfold un; rw [IntKind.wrap_u64, BitVec.toNat_shiftLeft, Nat.shiftLeft_eq]
  have : ((x.toNat : Int) * 2 ^ s) = ((x.toNat * 2 ^ s : Nat) : Int) := by norm_cast
  rw [this]; omega
def usBitB (X O : W64) (s i : Nat) : W64 := if i + s ≤ 63 then ((X >>> i) &&& 1#64) ^^^ ((O >>> (i + s)) &&& 1#64) else (X >>> i) &&& 1#64
def usToB (X : W64) (s : Nat) : Nat → W64
  | 0 => 0#64
  | k + 1 => usToB X s k ||| (usBitB X (usToB X s k) s (63 - k) <<< (63 - k))
theorem usTo_un (X : W64) (s k : Nat) : usTo (un X) s k = un (usToB X s k) := by
  induction k with
  | zero => rfl
  | succ k ih =>
    rw [usTo, usToB, ih]
    unfold usStep usBit usBitB
    split
    · rw [un_shr, un_shr, show (1 : Int) = un 1#64 by decide, un_and, un_and, un_xor, un_shl, un_or]
    · rw [un_shr, show (1 : Int) = un 1#64 by decide, un_and, un_shl, un_or]
theorem un2_bit (s : Nat) (hs : 64 ≤ s * 3) (X : W64) (i : Nat) (hi : i < 64) : (un2 s X).getLsbD i = Bool.xor (X.getLsbD i) ((un2 s X).getLsbD (i + s)) := by
  have h := congrArg (fun z => z.getLsbD i) (sh_un2 s hs X)
  simp only [sh, BitVec.getLsbD_xor, BitVec.getLsbD_ushiftRight] at h
  rw [← h, Nat.add_comm s i]
  cases (un2 s X).getLsbD i <;> cases (un2 s X).getLsbD (i + s) <;> rfl
theorem bit_one (j : Nat) : (1#64).getLsbD j = decide (j = 0) := by
  cases j with
  | zero => rfl
  | succ j => simp [BitVec.getLsbD_one]
theorem usToB_bits (X : W64) (s : Nat) (hs : 64 ≤ s * 3) (hs2 : s < 64) (h0 : 0 < s) (k : Nat) (hk : k ≤ 64) : ∀ j, j < 64 → (usToB X s k).getLsbD j = (decide (64 - k ≤ j) && (un2 s X).getLsbD j) := by
  induction k with
  | zero => intro j hj; simp [usToB]; omega
  | succ k ih =>
    intro j hj
    have ih := ih (by omega)
    have hb : ∀ m, (usBitB X (usToB X s k) s (63 - k)).getLsbD m = (decide (m = 0) && (un2 s X).getLsbD (63 - k)) := by
      intro m
      have e := un2_bit s hs X (63 - k) (by omega)
      unfold usBitB
      split
      · rename_i hc
        have e2 := ih (63 - k + s) (by omega)
        rw [show decide (64 - k ≤ 63 - k + s) = true by simp; omega, Bool.true_and] at e2
        rw [BitVec.getLsbD_xor, BitVec.getLsbD_and, BitVec.getLsbD_and, BitVec.getLsbD_ushiftRight, BitVec.getLsbD_ushiftRight, bit_one]
        by_cases hm : m = 0
        · subst hm; rw [Nat.add_zero, Nat.add_zero, e2, e]; simp
        · simp [hm]
      · rename_i hc
        rw [BitVec.getLsbD_of_ge _ (63 - k + s) (by omega)] at e
        rw [BitVec.getLsbD_and, BitVec.getLsbD_ushiftRight, bit_one]
        by_cases hm : m = 0
        · subst hm; rw [Nat.add_zero, e]; simp
        · simp [hm]
    rw [usToB, BitVec.getLsbD_or, BitVec.getLsbD_shiftLeft, hb, ih j hj]
    by_cases h1 : j < 63 - k
    · have h3 : decide (64 - k ≤ j) = false := by simp <;> omega
      have h4 : decide (64 - (k + 1) ≤ j) = false := by simp <;> omega
      rw [h3, h4]; simp [h1]
    · by_cases h2 : j = 63 - k
      · subst h2
        have h3 : decide (64 - k ≤ 63 - k) = false := by simp <;> omega
        have h4 : decide (64 - (k + 1) ≤ 63 - k) = true := by simp <;> omega
        rw [h3, h4]; simp <;> omega
      · have h3 : decide (64 - k ≤ j) = true := by simp <;> omega
        have h4 : decide (64 - (k + 1) ≤ j) = true := by simp <;> omega
        have h5 : decide (j - (63 - k) = 0) = false := by simp <;> omega
        rw [h3, h4, h5]; simp
theorem usToB_all (X : W64) (s : Nat) (hs : 64 ≤ s * 3) (hs2 : s < 64) (h0 : 0 < s) : usToB X s 64 = un2 s X := by
  apply BitVec.eq_of_getLsbD_eq
  intro j hj
  rw [usToB_bits X s hs hs2 h0 64 (by omega) j hj]; simp
theorem invC1' : invTo 13787848793156543929 64 = un D1 := by decide +kernel
theorem invC2' : invTo 10723151780598845931 64 = un D2 := by decide +kernel
set_option maxHeartbeats 400000 in
theorem runmix_any (x : Int) (h0 : 0 ≤ x) (h1 : x < 18446744073709551616) (w : World) :
    Calls Tryd.prog 32 #[.int .u64 x] w fun e w' => e = .returned (.int .u64 (unmixI x)) ∧ G w w' := by
  obtain ⟨X, rfl⟩ : ∃ X, x = un X := ⟨bv x, (un_bv x h0 h1).symm⟩
  go_enter Tryd.func32, Tryd.ntmps32
  go_wp2_with fail
  refine (rush_any (un X) 31 h0 h1 (by decide) _).mono ?_
  rintro e w1 ⟨rfl, rfl⟩
  rw [usTo_un, usToB_all X 31 (by decide) (by decide) (by decide)]
  go_wp2_with fail
  refine (rinv_any _ (by decide) (by decide) _).mono ?_
  rintro e w2 ⟨rfl, g2⟩
  rw [invC2']
  go_wp2_with fail
  rw [un_wrap_mul]
  refine (rush_any _ 27 (un_bd _).1 (un_bd _).2 (by decide) _).mono ?_
  rintro e w3 ⟨rfl, rfl⟩
  rw [usTo_un, usToB_all _ 27 (by decide) (by decide) (by decide)]
  go_wp2_with fail
  refine (rinv_any _ (by decide) (by decide) _).mono ?_
  rintro e w4 ⟨rfl, g4⟩
  rw [invC1']
  go_wp2_with fail
  rw [un_wrap_mul]
  refine (rush_any _ 30 (un_bd _).1 (un_bd _).2 (by decide) _).mono ?_
  rintro e w5 ⟨rfl, rfl⟩
  rw [usTo_un, usToB_all _ 30 (by decide) (by decide) (by decide)]
  go_wp2_with fail
  go_ret
  exact ⟨by rw [unmixI_un]; rfl, (by repeat (first | exact G.refl _ | refine G.alloc ?_ _ | refine G.drewN ?_ _ | refine G.drew ?_ | refine G.trans ?_ (by assumption)))⟩
set_option maxHeartbeats 1000000 in
theorem rbelow_nat (x y : Nat) (hx : x < 18446744073709551616) (hy : y < 18446744073709551616) (hy0 : 0 < y) (w : World) :
    Calls Tryd.prog 27 #[.int .u64 x, .int .u64 y] w fun e w' => e = .returned (.tuple #[.int .u64 ((x * y / 18446744073709551616 : Nat) : Int), .int .i64 0]) ∧ w' = w := by
  obtain ⟨bd, bt, bw, hhi⟩ := Lib.mul64_hi x y hx hy
  have ba := Lib.half_mul_le (a := x / 4294967296) (b := y / 4294967296) (by omega) (by omega)
  have bb := Lib.half_mul_le (a := x / 4294967296) (b := y % 4294967296) (by omega) (by omega)
  have bc := Lib.half_mul_le (a := x % 4294967296) (b := y / 4294967296) (by omega) (by omega)
  have ba' : x / 4294967296 * (y / 4294967296) < 18446744073709551616 := by omega
  have bb' : x / 4294967296 * (y % 4294967296) < 18446744073709551616 := by omega
  have bc' : x % 4294967296 * (y / 4294967296) < 18446744073709551616 := by omega
  have bh1 : x / 4294967296 * (y / 4294967296) + (x / 4294967296 * (y % 4294967296) + x % 4294967296 * (y % 4294967296) / 4294967296) / 4294967296 < 18446744073709551616 := by omega
  have bh : x / 4294967296 * (y / 4294967296) + (x / 4294967296 * (y % 4294967296) + x % 4294967296 * (y % 4294967296) / 4294967296) / 4294967296 + ((x / 4294967296 * (y % 4294967296) + x % 4294967296 * (y % 4294967296) / 4294967296) % 4294967296 + x % 4294967296 * (y / 4294967296)) / 4294967296 < 18446744073709551616 := by omega
  rw [Nat.add_comm ((x / 4294967296 * (y % 4294967296) + x % 4294967296 * (y % 4294967296) / 4294967296) % 4294967296)] at bw bh hhi
  go_enter Tryd.func27, Tryd.ntmps27
  go_wp2
  simp only [maskN x hx, maskN y hy, divN, mulN, addN, wrapN _ bd, wrapN _ bb', wrapN _ bt, maskN _ bt, wrapN _ bc', wrapN _ bw, wrapN _ ba', wrapN _ bh1, wrapN _ bh]
  rw [hhi]
  go_ret2
  exact ⟨rfl, rfl⟩
theorem rbelow_any (x n : Int) (hx0 : 0 ≤ x) (hx : x < 18446744073709551616) (hn0 : 0 < n) (hn : n < 18446744073709551616) (w : World) :
    Calls Tryd.prog 27 #[.int .u64 x, .int .u64 n] w fun e w' => e = .returned (.tuple #[.int .u64 (hiI x n), .int .i64 0]) ∧ w' = w := by
  obtain ⟨x, rfl⟩ := Int.eq_ofNat_of_zero_le hx0
  obtain ⟨n, rfl⟩ := Int.eq_ofNat_of_zero_le (Int.le_of_lt hn0)
  have e1 : hiI (x : Int) (n : Int) = ((x * n / 18446744073709551616 : Nat) : Int) := by unfold hiI; rw [mulN]; omega
  rw [e1]
  exact rbelow_nat x n (by omega) (by omega) (by omega) w
set_option maxHeartbeats 400000 in
theorem rbelow_zero (x : Int) (w : World) :
    Calls Tryd.prog 27 #[.int .u64 x, .int .u64 0] w fun e w' => e = .returned (.tuple #[.int .u64 0, .int .i64 2]) ∧ w' = w := by
  go_enter Tryd.func27, Tryd.ntmps27
  go_wp2
  go_ret2
  exact ⟨rfl, rfl⟩
set_option maxHeartbeats 400000 in
theorem rnew_any (s : Int) (w : World) :
    Calls Tryd.prog 23 #[.int .u64 s] w fun e w' => e = .returned (.pointer (some ⟨w.heap.size, 0, none⟩)) ∧ w' = w.alloc (.cells #[.bool true, .int .u64 s, .int .u64 0] 56) := by
  go_enter Tryd.func23, Tryd.ntmps23
  go_wp2_with fail
  go_ret
  exact ⟨rfl, rfl⟩
set_option maxHeartbeats 400000 in
theorem rvalid_any (k : Nat) (s p : Value) (w : World) (hb : Blk w k 56 #[.bool true, s, p]) :
    Calls Tryd.prog 33 #[.pointer (some ⟨k, 0, none⟩)] w fun e w' => e = .returned (.bool true) ∧ w' = w := by
  have c0 : w.cell? ⟨k, 0, none⟩ = some (.bool true) := hb.cell 0
  go_enter Tryd.func33, Tryd.ntmps33
  go_wp2_with fail
  go_ret
  exact ⟨rfl, rfl⟩
set_option maxHeartbeats 400000 in
theorem rnext_any (k : Nat) (s p : Int) (w : World) (hb : Blk w k 56 #[.bool true, .int .u64 s, .int .u64 p]) :
    Calls Tryd.prog 26 #[.pointer (some ⟨k, 0, none⟩)] w fun e w' => e = .returned (.int .u64 (atI s p)) ∧ w.grownBy w' (some k) ∧ Blk w' k 56 #[.bool true, .int .u64 s, .int .u64 (IntKind.u64.wrap (p + 1))] := by
  have c0 : w.cell? ⟨k, 0, none⟩ = some (.bool true) := hb.cell 0
  have c1 : w.cell? ⟨k, 1, none⟩ = some (.int .u64 s) := hb.cell 1
  have c2 : w.cell? ⟨k, 2, none⟩ = some (.int .u64 p) := hb.cell 2
  have f2 := hb.frozen 2
  go_enter Tryd.func26, Tryd.ntmps26
  go_wp2_with fail
  refine (rvalid_any k _ _ _ hb).mono ?_
  rintro e w1 ⟨rfl, rfl⟩
  go_wp2_with fail
  go_quiet ((go_at_call 30; exact Calls.quiet_of_same (rat_any _ _ _)))
  go_wp2_with fail
  go_ret
  exact ⟨rfl, grown_setCell (grown_drewN (grown_of_G (G.refl _) _) _) 2 _, (hb.drewN _).set_ 2 _⟩
set_option maxHeartbeats 400000 in
theorem rskip_any (k : Nat) (s p n : Int) (w : World) (hb : Blk w k 56 #[.bool true, .int .u64 s, .int .u64 p]) :
    Calls Tryd.prog 25 #[.pointer (some ⟨k, 0, none⟩), .int .u64 n] w fun e w' => e = .returned (.tuple #[]) ∧ w.grownBy w' (some k) ∧ Blk w' k 56 #[.bool true, .int .u64 s, .int .u64 (IntKind.u64.wrap (p + n))] := by
  have c0 : w.cell? ⟨k, 0, none⟩ = some (.bool true) := hb.cell 0
  have c1 : w.cell? ⟨k, 1, none⟩ = some (.int .u64 s) := hb.cell 1
  have c2 : w.cell? ⟨k, 2, none⟩ = some (.int .u64 p) := hb.cell 2
  have f2 := hb.frozen 2
  go_enter Tryd.func25, Tryd.ntmps25
  go_wp2_with fail
  refine (rvalid_any k _ _ _ hb).mono ?_
  rintro e w1 ⟨rfl, rfl⟩
  go_wp2_with fail
  go_end0
  exact ⟨rfl, grown_setCell (grown_of_G (G.refl _) _) 2 _, hb.set_ 2 _⟩
end Go.Proofs.YtelilcpbckecbaaDoor
