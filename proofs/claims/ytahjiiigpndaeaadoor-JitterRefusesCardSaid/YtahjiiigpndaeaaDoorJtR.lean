/-
  The document's side of jitters: check, wait, Wait.
-/
import Derived.Test.YtahjiiigpndaeaaDoorJtA
set_option linter.unusedVariables false
set_option linter.unusedSimpArgs false
namespace Go.Proofs.YtahjiiigpndaeaaDoor
open Go.RowKit

set_option maxHeartbeats 1000000 in
theorem rjcheck_any (s : ByteArray) (hsz : s.size < 9223372036854775807) (d n lo hi L : Int) (w : World) :
    Calls Tryd.prog 42 #[.string s, .int .i64 d, .int .i64 n, .int .i64 lo, .int .i64 hi, .int .i64 L] w fun e w' => e = .returned (.int .i64 (jcE s d (decide (n < lo) || decide (hi < n)) L)) ∧ G w w' := by
  cases hn : nmB s with
  | false =>
    have HE : Hid (jcE s d (decide (n < lo) || decide (hi < n)) L = 15) := Lib.hid (by unfold jcE; rw [if_neg (by rw [hn]; decide)])
    have HN := Lib.hid hn
    rw [HE.out]
    clear hn HE
    go_enter Tryd.func42, Tryd.ntmps42
    go_wp2_with fail
    go_at_call 44
    refine (rname_any s hsz _).mono ?_
    rintro e w1 ⟨rfl, g1⟩
    rw [HN.out]
    go_wp2_with fail
    go_ret
    exact ⟨rfl, g1⟩
  | true =>
    have HN := Lib.hid hn
    by_cases hd : 0 ≤ d ∧ d ≤ 253402300799
    · by_cases hg : lo ≤ n ∧ n ≤ hi
      · have hgb : (decide (n < lo) || decide (hi < n)) = false := by simp; omega
        by_cases hL : 0 ≤ L ∧ L ≤ 68719476736
        · have HE : Hid (jcE s d (decide (n < lo) || decide (hi < n)) L = 0) := Lib.hid (by unfold jcE; rw [if_pos hn, if_pos hd, if_pos ⟨hgb, hL⟩])
          rw [HE.out]
          obtain ⟨hd1, hd2⟩ := hd
          obtain ⟨hL1, hL2⟩ := hL
          obtain ⟨hg1, hg2⟩ := hg
          clear hn HE hgb
          go_enter Tryd.func42, Tryd.ntmps42
          go_wp2_with fail
          go_at_call 44
          refine (rname_any s hsz _).mono ?_
          rintro e w1 ⟨rfl, g1⟩
          rw [HN.out]
          go_wp2_with fail
          go_ret
          exact ⟨rfl, g1⟩
        · have HE : Hid (jcE s d (decide (n < lo) || decide (hi < n)) L = 2) := Lib.hid (by unfold jcE; rw [if_pos hn, if_pos hd, if_neg (by simp; omega)])
          rw [HE.out]
          obtain ⟨hd1, hd2⟩ := hd
          obtain ⟨hg1, hg2⟩ := hg
          have hL2 : L < 0 ∨ 68719476736 < L := by omega
          clear hn HE hL hgb
          rcases hL2 with hL | hL
          all_goals (
            go_enter Tryd.func42, Tryd.ntmps42
            go_wp2_with fail
            go_at_call 44
            refine (rname_any s hsz _).mono ?_
            rintro e w1 ⟨rfl, g1⟩
            rw [HN.out]
            go_wp2_with fail
            go_ret
            exact ⟨rfl, g1⟩)
      · have hgb : (decide (n < lo) || decide (hi < n)) = true := by simp; omega
        have HE : Hid (jcE s d (decide (n < lo) || decide (hi < n)) L = 2) := Lib.hid (by unfold jcE; rw [if_pos hn, if_pos hd, if_neg (by rw [hgb]; simp)])
        rw [HE.out]
        obtain ⟨hd1, hd2⟩ := hd
        have hg2 : n < lo ∨ lo ≤ n ∧ hi < n := by omega
        clear hn HE hg hgb
        rcases hg2 with hg | ⟨hg, hg2⟩
        all_goals (
          go_enter Tryd.func42, Tryd.ntmps42
          go_wp2_with fail
          go_at_call 44
          refine (rname_any s hsz _).mono ?_
          rintro e w1 ⟨rfl, g1⟩
          rw [HN.out]
          go_wp2_with fail
          go_ret
          exact ⟨rfl, g1⟩)
    · have HE : Hid (jcE s d (decide (n < lo) || decide (hi < n)) L = 14) := Lib.hid (by unfold jcE; rw [if_pos hn, if_neg hd])
      rw [HE.out]
      have hd2 : d < 0 ∨ 253402300799 < d := by omega
      clear hn HE hd
      rcases hd2 with hd | hd
      all_goals (
        go_enter Tryd.func42, Tryd.ntmps42
        go_wp2_with fail
        go_at_call 44
        refine (rname_any s hsz _).mono ?_
        rintro e w1 ⟨rfl, g1⟩
        rw [HN.out]
        go_wp2_with fail
        go_ret
        exact ⟨rfl, g1⟩)
set_option maxHeartbeats 1000000 in
theorem rjw_any (a : Int) (s : ByteArray) (d t L : Int) (ha : u64 a) (hs : s.size ≤ 24) (d0 : 0 ≤ d) (d1 : d ≤ 253402300799) (t0 : -9223372036854775808 ≤ t) (t1 : t ≤ 9223372036854775807) (hL : 0 ≤ L) (hL2 : L ≤ 68719476736) (w : World) :
    Calls Tryd.prog 43 #[.int .u64 a, .string s, .int .i64 d, .int .i64 t, .int .i64 L] w fun e w' => e = .returned (.int .i64 (jw a s d t L)) ∧ G w w' := by
  have hs2 : s.size < 9223372036854775807 := by omega
  have d2 : -9223372036854775808 ≤ d := by omega
  have d3 : d ≤ 9223372036854775807 := by omega
  by_cases hz : L = 0
  · subst hz
    have HE : Hid (jw a s d t 0 = 0) := Lib.hid (if_pos rfl)
    rw [HE.out]
    clear HE
    go_enter Tryd.func43, Tryd.ntmps43
    go_wp2_with fail
    go_ret
    exact ⟨rfl, (by repeat (first | exact G.refl _ | refine G.alloc ?_ _ | refine G.drewN ?_ _ | refine G.drew ?_ | refine G.trans ?_ (by assumption)))⟩
  · have hpos : 0 < L := by omega
    have HE : Hid (jw a s d t L = hiI (mixI (keyI a s d t)) L) := Lib.hid (if_neg hz)
    have hb := jw_bd2 a s d t L hL hL2
    rw [HE.out] at hb ⊢
    have HB := Lib.hid hb
    have hwn : IntKind.u64.wrap L = L := by rw [IntKind.wrap_u64]; omega
    have HW : Hid (IntKind.i64.wrap (hiI (mixI (keyI a s d t)) L) = hiI (mixI (keyI a s d t)) L) := Lib.hid (by generalize hiI (mixI (keyI a s d t)) L = x at hb; rw [IntKind.wrap_i64]; omega)
    have hz2 : (L == 0) = false := by simpa using hz
    clear HE hb hz
    generalize hX : hiI (mixI (keyI a s d t)) L = X at *
    have HX := Lib.hid hX
    clear hX
    go_enter Tryd.func43, Tryd.ntmps43
    go_wp2_with fail
    go_at_call 56
    refine (rkey_any a s d t ha hs2 d2 d3 t0 t1 _).mono ?_
    rintro e w1 ⟨rfl, g1⟩
    go_wp2_with fail
    go_at_call 55
    refine (rmix_any _ (keyI_bd a s d t).1 (keyI_bd a s d t).2 _).mono ?_
    rintro e w2 ⟨rfl, rfl⟩
    go_wp2_with fail
    go_at_call 54
    refine (rbelow_any _ L (mixI_bd _).1 (mixI_bd _).2 hpos (by omega) _).mono ?_
    rintro e w3 ⟨rfl, rfl⟩
    rw [HX.out]
    have hwx := HW.out
    have hb := HB.out
    go_wp2_with fail
    go_ret
    exact ⟨rfl, g1⟩
set_option maxHeartbeats 1000000 in
theorem rwait_any (a : Int) (s : ByteArray) (d t L : Int) (ha : u64 a) (hsz : s.size < 9223372036854775807) (t0 : -9223372036854775808 ≤ t) (t1 : t ≤ 9223372036854775807) (w : World) :
    Calls Tryd.prog 20 #[.int .u64 a, .string s, .int .i64 d, .int .i64 t, .int .i64 L] w fun e w' => e = .returned (.tuple #[.int .i64 (jwV a s d t L), .int .i64 (jwE s d t L)]) ∧ G w w' := by
  by_cases hE : jwE s d t L = 0
  · have HV : Hid (jwV a s d t L = jw a s d t L) := Lib.hid (if_pos hE)
    obtain ⟨hn, ⟨hd1, hd2⟩, ⟨ht1, ht2⟩, hL, hL2⟩ := jwE_ok hE
    have hs24 := nmB_size hn
    have HE : Hid (jcE s d (decide (t < 1) || decide (21 < t)) L = 0) := Lib.hid hE
    rw [HV.out, hE]
    clear HV hE hn
    go_enter Tryd.func20, Tryd.ntmps20
    go_wp2_with fail
    go_at_call 42
    refine (rjcheck_any s hsz d t 1 21 L _).mono ?_
    rintro e w1 ⟨rfl, g1⟩
    rw [HE.out]
    go_wp2_with fail
    go_at_call 43
    refine (rjw_any a s d t L ha hs24 hd1 hd2 t0 t1 hL hL2 _).mono ?_
    rintro e w2 ⟨rfl, g2⟩
    go_wp2_with fail
    go_ret2
    exact ⟨rfl, g1.trans g2⟩
  · have HV : Hid (jwV a s d t L = 0) := Lib.hid (if_neg hE)
    rw [HV.out]
    obtain ⟨q, hq⟩ : ∃ q, jwE s d t L = q := ⟨_, rfl⟩
    have HE : Hid (jcE s d (decide (t < 1) || decide (21 < t)) L = q) := Lib.hid hq
    rw [hq] at hE ⊢
    have h0 : (q == 0) = false := by simpa using hE
    have h1 : (q != 0) = true := by simpa using hE
    clear HV hE hq
    go_enter Tryd.func20, Tryd.ntmps20
    go_wp2_with fail
    go_at_call 42
    refine (rjcheck_any s hsz d t 1 21 L _).mono ?_
    rintro e w1 ⟨rfl, g1⟩
    rw [HE.out]
    go_wp2_with fail
    go_ret2
    exact ⟨rfl, g1⟩
end Go.Proofs.YtahjiiigpndaeaaDoor
