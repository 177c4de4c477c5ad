/-
  HashNumbers: a number is hashed as its eight bytes, the lowest one first; numbers that differ in one byte have different hashes.
  Conditions: none beyond the row's own (the table of package mix as the program's text lays it).
-/
import Derived.Test.YtodijghpeikmoaaDoorTieM
import Derived.Test.YtodijghpeikmoaaDoorHsX
import Derived.Deep.RegionHeld3
import Derived.Maps.AppendAt
set_option linter.unusedVariables false
set_option linter.unusedSimpArgs false
namespace Go.Proofs.YtodijghpeikmoaaDoor.lawHashNumbers
open Go.ChangeShapes Go.WideShapes Go.ChangeAt Go.RowKit
theorem hbI_un (H B : W64) : hbI (un H) (un B) = un ((H ^^^ B) * 1099511628211#64) := by
  unfold hbI
  rw [un_xor, show (1099511628211 : Int) = un 1099511628211#64 by decide, un_wrap_mul]
theorem odd_inj (X Y : W64) (h : X * 1099511628211#64 = Y * 1099511628211#64) : X = Y := by
  have h2 := congrArg (fun z => z * 14886173955864302971#64) h
  simp only [BitVec.mul_assoc] at h2
  rw [show (1099511628211#64 * 14886173955864302971#64 : W64) = 1#64 by decide] at h2
  simpa using h2
theorem hbI_inj (h a b : Int) (h0 : 0 ≤ h) (h1 : h < 18446744073709551616) (a0 : 0 ≤ a) (a1 : a < 256) (b0 : 0 ≤ b) (b1 : b < 256) (e : hbI h a = hbI h b) : a = b := by
  rw [← un_bv h h0 h1, ← un_bv a a0 (by omega), ← un_bv b b0 (by omega), hbI_un, hbI_un] at e
  have e2 := odd_inj _ _ (un_inj e)
  have e3 : bv a = bv b := by
    have := congrArg (fun z => bv h ^^^ z) e2
    simpa [← BitVec.xor_assoc] using this
  rw [← un_bv a a0 (by omega), ← un_bv b b0 (by omega), e3]
/-- a step takes no two hashes to one -/
theorem hbI_inj2 (h k b : Int) (h0 : u64 h) (k0 : u64 k) (b0 : 0 ≤ b) (b1 : b < 256) (e : hbI h b = hbI k b) : h = k := by
  rw [← un_bv h h0.1 h0.2, ← un_bv k k0.1 k0.2, ← un_bv b b0 (by omega), hbI_un, hbI_un] at e
  have e2 := odd_inj _ _ (un_inj e)
  have e3 : bv h = bv k := by
    have := congrArg (fun z => z ^^^ bv b) e2
    simpa [BitVec.xor_assoc] using this
  rw [← un_bv h h0.1 h0.2, ← un_bv k k0.1 k0.2, e3]
theorem hS_inj (l : List Int) (hl : ∀ x ∈ l, 0 ≤ x ∧ x < 256) (h k : Int) (h0 : u64 h) (k0 : u64 k) (e : hS h l = hS k l) : h = k := by
  induction l generalizing h k with
  | nil => exact e
  | cons b l ih =>
    have hb := hl b (by simp)
    exact hbI_inj2 h k b h0 k0 hb.1 hb.2 (ih (fun x hx => hl x (by simp [hx])) _ _ (hbI_bd h b) (hbI_bd k b) e)
theorem hS_app (h : Int) (p q : List Int) : hS h (p ++ q) = hS (hS h p) q := by unfold hS; rw [List.foldl_append]
theorem hS_mid (h : Int) (p q : List Int) (x y : Int) (hh : u64 h) (hq : ∀ z ∈ q, 0 ≤ z ∧ z < 256) (hx : 0 ≤ x ∧ x < 256) (hy : 0 ≤ y ∧ y < 256) (e : hS h (p ++ x :: q) = hS h (p ++ y :: q)) : x = y := by
  rw [hS_app, hS_app h p (y :: q)] at e
  have h1 : u64 (hS h p) := hS_bd hh p
  have e2 : hbI (hS h p) x = hbI (hS h p) y := hS_inj q hq _ _ (hbI_bd _ _) (hbI_bd _ _) e
  exact hbI_inj _ _ _ h1.1 h1.2 hx.1 hx.2 hy.1 hy.2 e2
theorem nbs8 (x : Int) : nbs x = [nbI x 0, nbI x 1, nbI x 2, nbI x 3, nbI x 4, nbI x 5, nbI x 6, nbI x 7] := rfl
theorem hN_mid (h m n : Int) (j : Nat) (hh : u64 h) (hj : j < 8) (E : ∀ k, k ≠ j → nbI m k = nbI n k) (e : hN h m = hN h n) : nbI m j = nbI n j :=
  match j, hj with
  | 0, _ => hS_mid h [] [nbI n 1, nbI n 2, nbI n 3, nbI n 4, nbI n 5, nbI n 6, nbI n 7] (nbI m 0) (nbI n 0) hh (by intro x hx; simp at hx; (try rcases hx with rfl | rfl | rfl | rfl | rfl | rfl | rfl) <;> exact nbI_bd _ _) (nbI_bd m 0) (nbI_bd n 0) (by
      have e' := e
      unfold hN at e'
      rw [nbs8 m, nbs8 n, E 1 (by decide), E 2 (by decide), E 3 (by decide), E 4 (by decide), E 5 (by decide), E 6 (by decide), E 7 (by decide)] at e'
      exact e')
  | 1, _ => hS_mid h [nbI n 0] [nbI n 2, nbI n 3, nbI n 4, nbI n 5, nbI n 6, nbI n 7] (nbI m 1) (nbI n 1) hh (by intro x hx; simp at hx; (try rcases hx with rfl | rfl | rfl | rfl | rfl | rfl) <;> exact nbI_bd _ _) (nbI_bd m 1) (nbI_bd n 1) (by
      have e' := e
      unfold hN at e'
      rw [nbs8 m, nbs8 n, E 0 (by decide), E 2 (by decide), E 3 (by decide), E 4 (by decide), E 5 (by decide), E 6 (by decide), E 7 (by decide)] at e'
      exact e')
  | 2, _ => hS_mid h [nbI n 0, nbI n 1] [nbI n 3, nbI n 4, nbI n 5, nbI n 6, nbI n 7] (nbI m 2) (nbI n 2) hh (by intro x hx; simp at hx; (try rcases hx with rfl | rfl | rfl | rfl | rfl) <;> exact nbI_bd _ _) (nbI_bd m 2) (nbI_bd n 2) (by
      have e' := e
      unfold hN at e'
      rw [nbs8 m, nbs8 n, E 0 (by decide), E 1 (by decide), E 3 (by decide), E 4 (by decide), E 5 (by decide), E 6 (by decide), E 7 (by decide)] at e'
      exact e')
  | 3, _ => hS_mid h [nbI n 0, nbI n 1, nbI n 2] [nbI n 4, nbI n 5, nbI n 6, nbI n 7] (nbI m 3) (nbI n 3) hh (by intro x hx; simp at hx; (try rcases hx with rfl | rfl | rfl | rfl) <;> exact nbI_bd _ _) (nbI_bd m 3) (nbI_bd n 3) (by
      have e' := e
      unfold hN at e'
      rw [nbs8 m, nbs8 n, E 0 (by decide), E 1 (by decide), E 2 (by decide), E 4 (by decide), E 5 (by decide), E 6 (by decide), E 7 (by decide)] at e'
      exact e')
  | 4, _ => hS_mid h [nbI n 0, nbI n 1, nbI n 2, nbI n 3] [nbI n 5, nbI n 6, nbI n 7] (nbI m 4) (nbI n 4) hh (by intro x hx; simp at hx; (try rcases hx with rfl | rfl | rfl) <;> exact nbI_bd _ _) (nbI_bd m 4) (nbI_bd n 4) (by
      have e' := e
      unfold hN at e'
      rw [nbs8 m, nbs8 n, E 0 (by decide), E 1 (by decide), E 2 (by decide), E 3 (by decide), E 5 (by decide), E 6 (by decide), E 7 (by decide)] at e'
      exact e')
  | 5, _ => hS_mid h [nbI n 0, nbI n 1, nbI n 2, nbI n 3, nbI n 4] [nbI n 6, nbI n 7] (nbI m 5) (nbI n 5) hh (by intro x hx; simp at hx; (try rcases hx with rfl | rfl) <;> exact nbI_bd _ _) (nbI_bd m 5) (nbI_bd n 5) (by
      have e' := e
      unfold hN at e'
      rw [nbs8 m, nbs8 n, E 0 (by decide), E 1 (by decide), E 2 (by decide), E 3 (by decide), E 4 (by decide), E 6 (by decide), E 7 (by decide)] at e'
      exact e')
  | 6, _ => hS_mid h [nbI n 0, nbI n 1, nbI n 2, nbI n 3, nbI n 4, nbI n 5] [nbI n 7] (nbI m 6) (nbI n 6) hh (by intro x hx; simp at hx; subst hx; exact nbI_bd _ _) (nbI_bd m 6) (nbI_bd n 6) (by
      have e' := e
      unfold hN at e'
      rw [nbs8 m, nbs8 n, E 0 (by decide), E 1 (by decide), E 2 (by decide), E 3 (by decide), E 4 (by decide), E 5 (by decide), E 7 (by decide)] at e'
      exact e')
  | 7, _ => hS_mid h [nbI n 0, nbI n 1, nbI n 2, nbI n 3, nbI n 4, nbI n 5, nbI n 6] [] (nbI m 7) (nbI n 7) hh (by intro x hx; cases hx) (nbI_bd m 7) (nbI_bd n 7) (by
      have e' := e
      unfold hN at e'
      rw [nbs8 m, nbs8 n, E 0 (by decide), E 1 (by decide), E 2 (by decide), E 3 (by decide), E 4 (by decide), E 5 (by decide), E 6 (by decide)] at e'
      exact e')
  | j + 8, h => absurd h (by omega)
theorem flip_at (P b j k : Nat) (hb : b < 256) : (P ^^^ (b * 2 ^ (8 * j))) / 2 ^ (8 * k) % 256 = (P / 2 ^ (8 * k) % 256) ^^^ (if k = j then b else 0) := by
  apply Nat.eq_of_testBit_eq
  intro i
  rw [show (256 : Nat) = 2 ^ 8 from rfl, Nat.testBit_mod_two_pow, Nat.testBit_div_two_pow, Nat.testBit_xor, Nat.testBit_xor, Nat.testBit_mod_two_pow, Nat.testBit_div_two_pow, Nat.testBit_mul_two_pow]
  have hbt : ∀ t, 8 ≤ t → b.testBit t = false := fun t ht => Nat.testBit_lt_two_pow (Nat.lt_of_lt_of_le (m := 2 ^ 8) hb (Nat.pow_le_pow_right (n := 2) (Nat.succ_pos 1) ht))
  by_cases hi : i < 8
  · by_cases hk : k = j
    · subst hk
      simp [hi]
    · rw [if_neg hk]
      rcases Nat.lt_or_ge k j with h | h
      · have : ¬ (8 * j ≤ i + 8 * k) := by omega
        have h2 : ¬ (8 * j ≤ 8 * k + i) := by omega
        simp [hi, this, h2]
      · have h3 := hbt (i + 8 * k - 8 * j) (by omega)
        have h4 := hbt (8 * k + i - 8 * j) (by omega)
        simp [hi, h3, h4]
  · by_cases hk : k = j
    · subst hk
      have h3 := hbt i (by omega)
      simp [hi, h3]
    · simp [hi, hk]
theorem wrap_wrap64 (y : Int) (h0 : 0 ≤ y) (h1 : y < 18446744073709551616) : IntKind.u64.wrap (wrap64 y) = y := by
  rw [IntKind.wrap_u64]; unfold wrap64; omega
/-- what the law does to a number -/
def flipI (n b : Int) (j : Nat) : Int := wrap64 (bits BinOp.xor IntKind.u64 (IntKind.u64.wrap n) (IntKind.u64.wrap (b * 2 ^ (8 * j))))
theorem flip_nat (n b : Int) (j : Nat) (hj : j < 8) (b0 : 0 ≤ b) (b1 : b < 256) : ∃ P : Nat, IntKind.u64.wrap n = P ∧ IntKind.u64.wrap (flipI n b j) = ((P ^^^ (b.toNat * 2 ^ (8 * j)) : Nat) : Int) := by
  have hn : 0 ≤ IntKind.u64.wrap n ∧ IntKind.u64.wrap n < 18446744073709551616 := by rw [IntKind.wrap_u64]; omega
  obtain ⟨c, rfl⟩ := Int.eq_ofNat_of_zero_le b0
  have hp : (2 : Nat) ^ (8 * j) ≤ 2 ^ 56 := Nat.pow_le_pow_right (by decide) (by omega)
  have hlt : c * 2 ^ (8 * j) < 18446744073709551616 := by
    have h1 : c * 2 ^ (8 * j) ≤ 255 * 2 ^ 56 := Nat.mul_le_mul (by omega) hp
    omega
  have hB : IntKind.u64.wrap ((c : Int) * 2 ^ (8 * j)) = ((c * 2 ^ (8 * j) : Nat) : Int) := by
    have hc : (c : Int) * 2 ^ (8 * j) = ((c * 2 ^ (8 * j) : Nat) : Int) := by push_cast; rfl
    rw [hc, IntKind.wrap_u64]
    omega
  have hx : bits BinOp.xor IntKind.u64 (IntKind.u64.wrap n) (IntKind.u64.wrap ((c : Int) * 2 ^ (8 * j))) = (((IntKind.u64.wrap n).toNat ^^^ (c * 2 ^ (8 * j)) : Nat) : Int) := by
    rw [hB]
    have e1 := un_bv (IntKind.u64.wrap n) hn.1 hn.2
    have e2 := un_bv ((c * 2 ^ (8 * j) : Nat) : Int) (by omega) (by omega)
    rw [← e1, ← e2, un_xor]
    have f1 : (bv (IntKind.u64.wrap n)).toNat = (IntKind.u64.wrap n).toNat := by
      have : un (bv (IntKind.u64.wrap n)) = IntKind.u64.wrap n := e1
      unfold un at this
      omega
    have f2 : (bv ((c * 2 ^ (8 * j) : Nat) : Int)).toNat = c * 2 ^ (8 * j) := by
      have : un (bv ((c * 2 ^ (8 * j) : Nat) : Int)) = ((c * 2 ^ (8 * j) : Nat) : Int) := e2
      unfold un at this
      exact Int.ofNat.inj this
    rw [e1]
    unfold un
    rw [BitVec.toNat_xor, f1, f2]
  have hxb : (IntKind.u64.wrap n).toNat ^^^ (c * 2 ^ (8 * j)) < 18446744073709551616 := by
    have := Nat.xor_lt_two_pow (n := 64) (x := (IntKind.u64.wrap n).toNat) (y := c * 2 ^ (8 * j)) (by omega) (by omega)
    exact this
  refine ⟨(IntKind.u64.wrap n).toNat, by omega, ?_⟩
  unfold flipI
  rw [hx, wrap_wrap64 _ (by omega) (by omega)]
  rfl
theorem nbI_nat {n : Int} {P : Nat} (h : IntKind.u64.wrap n = P) (k : Nat) : nbI n k = ((P / 2 ^ (8 * k) % 256 : Nat) : Int) := by
  unfold nbI
  rw [h]
  rfl
theorem hN_flip (h n b : Int) (j : Nat) (hh : u64 h) (hj : j < 8) (b0 : 0 ≤ b) (b1 : b < 256) : (hN h (flipI n b j) == hN h n) = (b == 0) := by
  obtain ⟨P, hP, hQ⟩ := flip_nat n b j hj b0 b1
  have E : ∀ k, nbI (flipI n b j) k = (((P / 2 ^ (8 * k) % 256) ^^^ (if k = j then b.toNat else 0) : Nat) : Int) := fun k => by
    rw [nbI_nat hQ, flip_at P b.toNat j k (by omega)]
  by_cases hb : b = 0
  · subst hb
    have : nbs (flipI n 0 j) = nbs n := by
      rw [nbs8, nbs8]
      simp only [E, nbI_nat hP]
      simp
    unfold hN
    rw [this]
    simp
  · rw [show (b == 0) = false by simpa using hb]
    refine beq_eq_false_iff_ne.mpr (fun e => ?_)
    have h2 := hN_mid h (flipI n b j) n j hh hj (fun k hk => by rw [E, nbI_nat hP, if_neg hk, Nat.xor_zero]) e
    rw [E, nbI_nat hP, if_pos rfl] at h2
    have h3 := Int.ofNat.inj h2
    have h4 : (P / 2 ^ (8 * j) % 256) ^^^ ((P / 2 ^ (8 * j) % 256) ^^^ b.toNat) = (P / 2 ^ (8 * j) % 256) ^^^ (P / 2 ^ (8 * j) % 256) := by rw [h3]
    rw [← Nat.xor_assoc, Nat.xor_self, Nat.zero_xor] at h4
    omega
theorem info_u8h : (Tryd.prog.info? 5).map (fun i => (i.zero, i.size, i.bytes)) = some (some (.int .u8 0), 1, 1) := by kernel_rfl
theorem take_snocI (l : List Int) {k : Nat} (hk : k < l.length) : l.take (k + 1) = l.take k ++ [at_ l k] := by
  unfold at_
  rw [List.take_add_one, List.getElem?_eq_getElem hk]
  rfl
theorem vI_app_ (k : IntKind) (l : List Int) (x : Int) : vI k l ++ [.int k x] = vI k (l ++ [x]) := by simp [vI]
theorem shr_bd (n : Int) (i : Nat) : 0 ≤ IntKind.u64.wrap n / 2 ^ (8 * i) ∧ IntKind.u64.wrap n / 2 ^ (8 * i) < 18446744073709551616 := by
  have h : 0 ≤ IntKind.u64.wrap n ∧ IntKind.u64.wrap n < 18446744073709551616 := by rw [IntKind.wrap_u64]; omega
  have hp : (0 : Int) < 2 ^ (8 * i) := Int.pow_pos (by decide)
  refine ⟨Int.ediv_nonneg h.1 (Int.le_of_lt hp), ?_⟩
  have := Int.ediv_le_self (2 ^ (8 * i)) h.1
  omega
set_option maxRecDepth 10000 in
set_option maxHeartbeats 16000000 in
theorem walk (w : World) (h : Int) (h0 : 0 ≤ h) (h1 : h ≤ 18446744073709551615) (n : Int) (n0 : -9223372036854775808 ≤ n) (n1 : n ≤ 9223372036854775807) (a : Int) (a0 : 0 ≤ a) (a1 : a ≤ 255) (b : Int) (b0 : 0 ≤ b) (b1 : b ≤ 255) (ht : Tab w) :
    Calls Tryd.prog 7 #[.int .u64 h, .int .i64 n, .int .u8 a, .int .u8 b] w fun e w' => e = .returned (.bool true) ∧ G w w' := by
  have HT := Lib.hid ht
  have hu : u64 h := ⟨h0, by omega⟩
  clear ht
  obtain ⟨j, hj⟩ : ∃ j : Nat, (8 * (a % 8)).toNat = 8 * j := ⟨(a % 8).toNat, by omega⟩
  have hj8 : j < 8 := by omega
  have HFl := Lib.hid (hN_flip h n b j hu hj8 b0 (by omega))
  obtain ⟨m, hm⟩ : ∃ m, flipI n b j = m := ⟨_, rfl⟩
  have hmb : -9223372036854775808 ≤ m ∧ m ≤ 9223372036854775807 := by rw [← hm]; unfold flipI wrap64; omega
  rw [hm] at HFl
  have HM : Hid (wrap64 (bits BinOp.xor IntKind.u64 (IntKind.u64.wrap n) (IntKind.u64.wrap (b * 2 ^ (8 * (a % 8)).toNat))) = m) := Lib.hid (by rw [hj]; exact hm)
  obtain ⟨mb0, mb1⟩ := hmb
  clear hm hj hj8
  obtain ⟨i0, hi, hz0, hz1, hz2⟩ := info_parts info_u8h
  go_enter Tryd.func7, Tryd.ntmps7
  go_wp2_with fail
  go_loopw [9, 10, 11] (fun bv xv iv wr => ∃ i : Nat, i ≤ 8 ∧ iv = .int .i64 i ∧ ∃ x : Int, xv = .int .u64 x ∧ x = IntKind.u64.wrap n / 2 ^ (8 * i) ∧ G w wr ∧ wr.ownsRow w.heap.size 5 1 bv i (vI .u8 ((nbs n).take i))) (fun _ _ iv _ => 8 - (intOf iv).toNat)
  case atStart => exact ⟨0, by omega, rfl, _, rfl, by simp, G.refl _, World.ownsRow_nil _ _ _ _⟩
  case round =>
    obtain ⟨i, hi8, rfl, x, rfl, hx, hg, hown⟩ := hrel
    have hxb := shr_bd n i
    rw [← hx] at hxb
    obtain ⟨x0, x1⟩ := hxb
    by_cases hlt : i < 8
    · have hii : (i : Int) < 8 := by omega
      have HU : Hid ((nbs n).take (i + 1) = (nbs n).take i ++ [x % 256]) := Lib.hid (by rw [take_snocI (nbs n) (by rw [nbs_len]; exact hlt), nbs_at n hlt, hx]; rfl)
      have HX2 : Hid (x / 256 = IntKind.u64.wrap n / 2 ^ (8 * (i + 1))) := Lib.hid (by
        rw [hx, Int.ediv_ediv_of_nonneg (by exact Int.le_of_lt (Int.pow_pos (by decide)))]
        congr 1
        rw [show 8 * (i + 1) = 8 * i + 8 by omega, Int.pow_add]
        rfl)
      clear hx
      have hns : w.heap.size ≤ wr.heap.size := hg.size
      go_wp2_with (at_builtin; refine wpList_append_own _ rfl _ _ 39 rfl w.heap.size 5 i0 (.int .u8 0) 1 1 Tryd.underlying39 hi hz0 hz1 hz2 rfl (by decide) _ _ _ rfl (hown.alloc _) ⟨wr.heap.size, 0, none⟩ 1 1 [.int .u8 (x % 256)] rfl rfl (cell_one_new _ _ _) (by simp [Value.oneCell']) (by unfold maxLen; omega) (by omega) (by simp; omega) ?_; intro v' w3 hown' hgrow _)
      have hg3 : G w w3 := (hg.alloc _).grown hgrow (fun r e => (hown.lt r e).1)
      rw [vI_app_, ← HU.out] at hown'
      go_wp2_with fail
      go_roundw
      case rel => exact ⟨i + 1, by omega, by go_num, _, rfl, by first | exact HX2.out | (rw [← HX2.out]; rfl) | (simpa using HX2.out), hg3, hown'⟩
      case measure => simp [intOf]; omega
    · obtain rfl : i = 8 := by omega
      clear hx x0 x1
      rw [show (nbs n).take 8 = nbs n by rw [← nbs_len n, List.take_length]] at hown
      obtain ⟨A, c, rfl, hc, hcm, hd⟩ := Rd.of_own hown
      rw [vI_len, nbs_len] at hc hd ⊢
      obtain ⟨kB, oB, rfl, dB⟩ := hd (by omega)
      go_wp2_with fail
      rw [HM.out]
      have hcv : ∀ W : World, G wr W → (convert 39 9 (.slice (some ⟨kB, oB, none⟩) 8 c)).run Tryd.prog W = .ok (.string (strOfNums (nbs n))) W := fun W hW => run_convert_bytes_arg (P := Tryd.prog) W 39 5 Tryd.underlying39 Tryd.underlying5 kB oB 8 c (nbs n) (nbs_len n) (fun j hj => by
        have h := dB j _ (vI_get (by rw [nbs_len]; exact hj))
        rw [G.cell hW (World.block_lt_of_cell? wr _ h) h]
        rfl) 9 Tryd.underlying9
      have HN1 := Lib.hid (fun w => num_any h n hu n0 n1 w)
      have HN2 := Lib.hid (fun w => num_any h m hu mb0 mb1 w)
      have HMo := Lib.hid (fun w => more_any h (strOfNums (nbs n)) hu (by rw [str_size, nbs_len]; decide) w)
      rw [bs_str (nbs n) (nbs_bd n), show hS h (nbs n) = hN h n from rfl] at HMo
      have hE := HFl.out
      have HW := Lib.hid (fun w' (h : G wr w') => works_any w' (HT.out.g (hg.trans h)))
      clear hown hd dB hu HFl HT
      generalize hN h n = X at *
      generalize hN h m = Y at *
      go_region_held3 (fun w' => G wr w') (first | exact G.refl _ | exact (G.refl _).drew | assumption | fail)
        (first
          | (go_at_call 20; refine (HMo.out _).mono ?_; rintro e v2 ⟨rfl, gx⟩; have gv2 : G wr v2 := (by first | exact gx | exact (G.refl wr).drew.trans gx | exact G.trans (by assumption) gx); clear gx)
          | (go_at_call 22; first | (refine (HN1.out _).mono ?_; rintro e v1 ⟨rfl, gx⟩; have gv1 : G wr v1 := (by first | exact gx | exact (G.refl wr).drew.trans gx | exact G.trans (by assumption) gx); clear gx) | (refine (HN2.out _).mono ?_; rintro e v3 ⟨rfl, gx⟩; have gv3 : G wr v3 := (by first | exact gx | exact (G.refl wr).drew.trans gx | exact G.trans (by assumption) gx); clear gx))
          | (go_at_call 13; refine (HW.out _ (by assumption)).mono ?_; rintro e v5 ⟨rfl, gx⟩; have gv5 : G wr v5 := G.trans (by assumption) gx; clear gx))
      all_goals (
        go_wp2_with fail
        go_ret
        exact ⟨rfl, hg.trans gv5⟩)

set_option maxRecDepth 4000 in
set_option maxHeartbeats 2000000 in
theorem contract (H : Type) (enc : TypeId × Value → H) (W : World) (base : Nat) (args : Array Value) (ds gs : List (DataW H)) (before : List MemPlace)
    (hval : ∀ (j : Nat) t v, Tryd.f7.params[j]? = some t → args[j]? = some v → Value.okWide Tryd.prog W .any base t v)
    (hW : DataW.Whole enc Tryd.prog Tryd.f7.params.toList Rows.hashNumbersSpec.vars false W args.toList ds gs before) (hL : laidMetH Tryd.prog Rows.hashNumbersRow.laid W) :
    Calls Tryd.prog 7 args W fun e W' => ∃ v, e = .returned v ∧ Rows.hashNumbersSpec.post enc Tryd.prog Tryd.f7 false true false false W args v W' := by
  have hW' := hW
  obtain ⟨p, q, hA0, hV, rfl, hfz, hnd⟩ := hW
  have hA : DataW.TrodAll enc Tryd.prog W 0 (fun _ => true) true Tryd.f7.params.toList args.toList ds p := hA0
  rw [Tryd.params7] at hA hval
  obtain ⟨v0, vs0, d0, ds0, p0, q0, hargs, rfl, rfl, h0, r0⟩ := trodAll_cons hA
  obtain ⟨v1, vs1, d1, ds1, p1, q1, rfl, rfl, rfl, h1, r1⟩ := trodAll_cons r0
  obtain ⟨v2, vs2, d2, ds2, p2, q2, rfl, rfl, rfl, h2, r2⟩ := trodAll_cons r1
  obtain ⟨v3, vs3, d3, ds3, p3, q3, rfl, rfl, rfl, h3, r3⟩ := trodAll_cons r2
  obtain ⟨rfl, rfl, rfl⟩ := trodAll_nil r3
  obtain rfl : args = #[v0, v1, v2, v3] := by first | exact Array.ext' hargs | (cases args; simp_all)
  obtain ⟨a0, rfl, rfl, rfl, w0⟩ := open_int Tryd.underlying23 (hval 0 23 v0 rfl rfl) h0
  simp [Lit.wf, IntKind.min, IntKind.max, IntKind.bits, IntKind.signed] at w0
  obtain ⟨a1, rfl, rfl, rfl, w1⟩ := open_int Tryd.underlying2 (hval 1 2 v1 rfl rfl) h1
  simp [Lit.wf, IntKind.min, IntKind.max, IntKind.bits, IntKind.signed] at w1
  obtain ⟨a2, rfl, rfl, rfl, w2⟩ := open_int Tryd.underlying5 (hval 2 5 v2 rfl rfl) h2
  simp [Lit.wf, IntKind.min, IntKind.max, IntKind.bits, IntKind.signed] at w2
  obtain ⟨a3, rfl, rfl, rfl, w3⟩ := open_int Tryd.underlying5 (hval 3 5 v3 rfl rfl) h3
  simp [Lit.wf, IntKind.min, IntKind.max, IntKind.bits, IntKind.signed] at w3
  refine (walk (w := W) a0 (by omega) (by omega) a1 (by omega) (by omega) a2 (by omega) (by omega) a3 (by omega) (by omega) (tab_of hL)).mono fun e W' ⟨he, hg⟩ => ?_
  subst he
  exact ⟨_, rfl, law_post laidOut_ (by
    intro t ht
    rw [Tryd.params7] at ht
    simp at ht
    rcases ht with rfl | rfl | rfl <;> exact ⟨by kernel_rfl, by decide +kernel⟩) hW' rfl rfl (by kernel_rfl) Tryd.underlying4 hg⟩
theorem laid_met (os : Os) : laidMet Tryd.prog Rows.hashNumbersRow.laid ((laidWorld os).forCall (fun _ _ => 0) ⟨#[], #[.int .u64 0, .int .i64 0, .int .u8 0, .int .u8 0], []⟩).memory :=
  laidMet_of_run' 8 (by kernel_rfl) (by kernel_rfl)
theorem reads (os : Os) {H : Type} (enc : TypeId × Value → H) : ∃ places, DataW.whole enc Tryd.prog ((laidWorld os).forCall (fun _ _ => 0) ⟨#[], #[.int .u64 0, .int .i64 0, .int .u8 0, .int .u8 0], []⟩).memory Tryd.f7.params.toList Rows.hashNumbersSpec.vars false (#[.int .u64 0, .int .i64 0, .int .u8 0, .int .u8 0] : Array Value).toList 8 = some ([.lit (.int .u64 0), .lit (.int .i64 0), .lit (.int .u8 0), .lit (.int .u8 0)], [], places) :=
  ⟨[], by kernel_rfl⟩
set_option maxRecDepth 100000 in
theorem lifted (os : Os) (started : os.Started) (H : Type) (enc : TypeId × Value → H) (F : Stop.Interp) :
    ReturnsInHanded {} Tryd.checked os 7 .any ((OpenSpec.ofChange Rows.hashNumbersSpec).preRow enc Tryd.prog Tryd.f7 Rows.hashNumbersRow.domain false Rows.hashNumbersRow.laid) (((OpenSpec.ofChange Rows.hashNumbersSpec).at F).post enc Tryd.prog Tryd.f7 false true false false) := by
  obtain ⟨places, hx⟩ := reads os enc
  refine returnsInHanded_of_row (C := Tryd.checked) (s := OpenSpec.ofChange Rows.hashNumbersSpec) own_ started (by kernel_rfl) Tryd.func7
    (witness_row_at (enc := enc) (C := Tryd.checked) false (laidWorld os) #[.int .u64 0, .int .i64 0, .int .u8 0, .int .u8 0] rfl (by kernel_rfl) (by kernel_rfl) (by kernel_rfl)
      (OpenSpec.preRow_of_cond 8 hx (by kernel_rfl) (fun k hk => by cases hk) (by kernel_rfl) (laid_met os))) ?_
  intro W base args ds gs before hval hW _ _ _ hL _ _
  exact contract H enc W base args ds gs before hval hW hL
theorem said : Rows.HashNumbersSaid :=
  OpenClaim.holds_of_cond 7 Tryd.f7 rfl rfl rfl rfl rfl rfl rfl ⟨rfl, rfl, rfl, rfl, rfl⟩ rfl rfl rfl rfl rfl (by kernel_rfl) Tryd.func7 (by kernel_rfl)
    (of_decide_eq_true (by kernel_rfl)) (by unfold Func.isWrapper; first | (rw [if_pos (by decide +kernel)]; kernel_rfl) | (rw [if_neg (by decide +kernel)]; exact ⟨rfl, rfl⟩))
    (fun os started H enc _ F => by rw [OpenClaim.pre_eq_preRow]; exact lifted os started H enc F)
theorem plain (f : FuncId) (fn : Func) (hf : Tryd.pinned.checked.prog.funcNamed "wakeman/wakemanlaw28.HashNumbers" = some f) (hfn : Tryd.pinned.checked.prog.funcs[f]? = some fn) :
    false = Tryd.pinned.checked.prog.looks [] ∧ ∀ (j : Nat) t, fn.params[j]? = some t → Tryd.pinned.checked.prog.wantsStandIn t = false := by
  obtain rfl : f = 7 := Option.some.inj ((show Tryd.prog.funcNamed "wakeman/wakemanlaw28.HashNumbers" = some 7 by kernel_rfl).symm.trans hf) |>.symm
  obtain rfl : fn = Tryd.f7 := (Option.some.inj (Tryd.func7.symm.trans hfn)).symm
  refine ⟨by kernel_rfl, fun j t ht => ?_⟩
  rw [Tryd.params7] at ht
  have hm := Array.mem_of_getElem? ht
  simp at hm
  rcases hm with rfl | rfl | rfl
  · exact (show Tryd.prog.wantsStandIn 23 = false by kernel_rfl)
  · exact (show Tryd.prog.wantsStandIn 2 = false by kernel_rfl)
  · exact (show Tryd.prog.wantsStandIn 5 = false by kernel_rfl)
theorem card : Rows.HashNumbersCardSaid :=
  Claim7.holds_tied_plain_at .later [] _ _ _ _ said (fun _ h => by cases h) (by kernel_rfl) (fun _ h => by cases h) hashNumbers_row_tie rfl ⟨rfl, rfl⟩ (by kernel_rfl) rfl plain (by kernel_rfl)
#print axioms card
end Go.Proofs.YtodijghpeikmoaaDoor.lawHashNumbers
