/-
  Package jitter and the document's side: the errors, one jitter, Wait.
-/
import Derived.Test.YtahjiiigpndaeaaDoorHsR
set_option linter.unusedVariables false
set_option linter.unusedSimpArgs false
namespace Go.Proofs.YtahjiiigpndaeaaDoor
open Go.RowKit

theorem nmB_size {s : ByteArray} (h : nmB s = true) : s.size ≤ 24 := by
  unfold nmB at h
  simp at h
  omega
/-- the first error of a name, a time and a length -/
def jcE (s : ByteArray) (d : Int) (g : Bool) (L : Int) : Int := if nmB s = true then (if 0 ≤ d ∧ d ≤ 253402300799 then (if g = false ∧ 0 ≤ L ∧ L ≤ 68719476736 then 0 else 2) else 14) else 15
theorem jcE_bd (s : ByteArray) (d : Int) (g : Bool) (L : Int) : jcE s d g L = 0 ∨ jcE s d g L = 2 ∨ jcE s d g L = 14 ∨ jcE s d g L = 15 := by
  unfold jcE
  split
  · split
    · split <;> simp
    · simp
  · simp
theorem jcE_ok {s : ByteArray} {d : Int} {g : Bool} {L : Int} (h : jcE s d g L = 0) : nmB s = true ∧ (0 ≤ d ∧ d ≤ 253402300799) ∧ g = false ∧ 0 ≤ L ∧ L ≤ 68719476736 := by
  unfold jcE at h
  split at h
  · split at h
    · split at h
      · exact ⟨by assumption, by assumption, by assumption⟩
      · omega
    · omega
  · omega
/-- the jitter of an attempt -/
def jw (a : Int) (s : ByteArray) (d t L : Int) : Int := if L = 0 then 0 else hiI (mixI (keyI a s d t)) L
theorem jw_bd (a : Int) (s : ByteArray) (d t L : Int) (h : 0 ≤ L) : 0 ≤ jw a s d t L ∧ jw a s d t L < max L 1 := by
  unfold jw
  split
  · omega
  · have := hiI_bd (mixI (keyI a s d t)) L (mixI_bd _).1 (mixI_bd _).2 (by omega)
    omega
theorem jw_bd2 (a : Int) (s : ByteArray) (d t L : Int) (h : 0 ≤ L) (h2 : L ≤ 68719476736) : 0 ≤ jw a s d t L ∧ jw a s d t L ≤ 68719476736 := by
  have := jw_bd a s d t L h
  omega
set_option maxHeartbeats 1000000 in
theorem checked_any (s : ByteArray) (d : Int) (g : Bool) (L : Int) (w : World) :
    Calls Tryd.prog 38 #[.string s, .int .i64 d, .bool g, .int .i64 L] w fun e w' => e = .returned (.int .i64 (jcE s d g L)) ∧ G w w' := by
  cases hn : nmB s with
  | false =>
    have HE : Hid (jcE s d g L = 15) := Lib.hid (by unfold jcE; rw [if_neg (by rw [hn]; decide)])
    have HN := Lib.hid hn
    rw [HE.out]
    clear hn HE
    go_enter Tryd.func38, Tryd.ntmps38
    go_wp2_with fail
    go_at_call 41
    refine (name_any s _).mono ?_
    rintro e w1 ⟨rfl, g1⟩
    rw [HN.out]
    go_wp2_with fail
    go_ret
    exact ⟨rfl, g1⟩
  | true =>
    have HN := Lib.hid hn
    by_cases hd : 0 ≤ d ∧ d ≤ 253402300799
    · cases g with
      | true =>
        have HE : Hid (jcE s d true L = 2) := Lib.hid (by unfold jcE; rw [if_pos hn, if_pos hd, if_neg (by simp)])
        rw [HE.out]
        obtain ⟨hd1, hd2⟩ := hd
        clear hn HE
        go_enter Tryd.func38, Tryd.ntmps38
        go_wp2_with fail
        go_at_call 41
        refine (name_any s _).mono ?_
        rintro e w1 ⟨rfl, g1⟩
        rw [HN.out]
        go_wp2_with fail
        go_ret
        exact ⟨rfl, g1⟩
      | false =>
        by_cases hL : 0 ≤ L ∧ L ≤ 68719476736
        · have HE : Hid (jcE s d false L = 0) := Lib.hid (by unfold jcE; rw [if_pos hn, if_pos hd, if_pos ⟨rfl, hL⟩])
          rw [HE.out]
          obtain ⟨hd1, hd2⟩ := hd
          obtain ⟨hL1, hL2⟩ := hL
          clear hn HE
          go_enter Tryd.func38, Tryd.ntmps38
          go_wp2_with fail
          go_at_call 41
          refine (name_any s _).mono ?_
          rintro e w1 ⟨rfl, g1⟩
          rw [HN.out]
          go_wp2_with fail
          go_ret
          exact ⟨rfl, g1⟩
        · have HE : Hid (jcE s d false L = 2) := Lib.hid (by unfold jcE; rw [if_pos hn, if_pos hd, if_neg (by simp; omega)])
          rw [HE.out]
          obtain ⟨hd1, hd2⟩ := hd
          have hL2 : L < 0 ∨ 68719476736 < L := by omega
          clear hn HE hL
          rcases hL2 with hL | hL
          all_goals (
            go_enter Tryd.func38, Tryd.ntmps38
            go_wp2_with fail
            go_at_call 41
            refine (name_any s _).mono ?_
            rintro e w1 ⟨rfl, g1⟩
            rw [HN.out]
            go_wp2_with fail
            go_ret
            exact ⟨rfl, g1⟩)
    · have HE : Hid (jcE s d g L = 14) := Lib.hid (by unfold jcE; rw [if_pos hn, if_neg hd])
      rw [HE.out]
      have hd2 : d < 0 ∨ 253402300799 < d := by omega
      clear hn HE hd
      rcases hd2 with hd | hd
      all_goals (
        go_enter Tryd.func38, Tryd.ntmps38
        go_wp2_with fail
        go_at_call 41
        refine (name_any s _).mono ?_
        rintro e w1 ⟨rfl, g1⟩
        rw [HN.out]
        go_wp2_with fail
        go_ret
        exact ⟨rfl, g1⟩)
set_option maxHeartbeats 1000000 in
theorem one_jit (a : Int) (s : ByteArray) (d t L : Int) (ha : u64 a) (hs : s.size ≤ 24) (d0 : 0 ≤ d) (d1 : d ≤ 253402300799) (t0 : -9223372036854775808 ≤ t) (t1 : t ≤ 9223372036854775807) (hL : 0 ≤ L) (hL2 : L ≤ 68719476736) (w : World) (ht : Tab w) :
    Calls Tryd.prog 39 #[.int .u64 a, .string s, .int .i64 d, .int .i64 t, .int .i64 L] w fun e w' => e = .returned (.int .i64 (jw a s d t L)) ∧ G w w' := by
  have HT := Lib.hid ht
  clear ht
  have hs2 : s.size < 9223372036854775807 := by omega
  have d2 : -9223372036854775808 ≤ d := by omega
  have d3 : d ≤ 9223372036854775807 := by omega
  by_cases hz : L = 0
  · subst hz
    have HE : Hid (jw a s d t 0 = 0) := Lib.hid (if_pos rfl)
    rw [HE.out]
    clear HE
    go_enter Tryd.func39, Tryd.ntmps39
    go_wp2_with fail
    go_at_call 27
    refine (key_any a s d t ha hs2 d2 d3 t0 t1 _).mono ?_
    rintro e w1 ⟨rfl, g1⟩
    go_wp2_with fail
    go_at_call 26
    refine (mix_any _ (keyI_bd a s d t).1 (keyI_bd a s d t).2 _ (HT.out.g g1)).mono ?_
    rintro e w2 ⟨rfl, g2⟩
    go_wp2_with fail
    go_at_call 25
    refine (below_zero _ _).mono ?_
    rintro e w3 ⟨rfl, rfl⟩
    go_wp2_with fail
    go_ret
    exact ⟨rfl, g1.trans g2⟩
  · have hpos : 0 < L := by omega
    have HE : Hid (jw a s d t L = hiI (mixI (keyI a s d t)) L) := Lib.hid (if_neg hz)
    have hb := jw_bd2 a s d t L hL hL2
    rw [HE.out] at hb ⊢
    have HB := Lib.hid hb
    have hwn : IntKind.u64.wrap L = L := by rw [IntKind.wrap_u64]; omega
    have HW : Hid (IntKind.i64.wrap (hiI (mixI (keyI a s d t)) L) = hiI (mixI (keyI a s d t)) L) := Lib.hid (by generalize hiI (mixI (keyI a s d t)) L = x at hb; rw [IntKind.wrap_i64]; omega)
    clear HE hb hz
    generalize hX : hiI (mixI (keyI a s d t)) L = X at *
    have HX := Lib.hid hX
    clear hX
    go_enter Tryd.func39, Tryd.ntmps39
    go_wp2_with fail
    go_at_call 27
    refine (key_any a s d t ha hs2 d2 d3 t0 t1 _).mono ?_
    rintro e w1 ⟨rfl, g1⟩
    go_wp2_with fail
    go_at_call 26
    refine (mix_any _ (keyI_bd a s d t).1 (keyI_bd a s d t).2 _ (HT.out.g g1)).mono ?_
    rintro e w2 ⟨rfl, g2⟩
    go_wp2_with fail
    go_at_call 25
    refine (below_any _ L (mixI_bd _).1 (mixI_bd _).2 hpos (by omega) _).mono ?_
    rintro e w3 ⟨rfl, rfl⟩
    rw [HX.out]
    have hwx := HW.out
    have hb := HB.out
    go_wp2_with fail
    go_ret
    exact ⟨rfl, g1.trans g2⟩
def jwE (s : ByteArray) (d t L : Int) : Int := jcE s d (decide (t < 1) || decide (21 < t)) L
def jwV (a : Int) (s : ByteArray) (d t L : Int) : Int := if jwE s d t L = 0 then jw a s d t L else 0
theorem jwE_bd (s : ByteArray) (d t L : Int) : jwE s d t L = 0 ∨ jwE s d t L = 2 ∨ jwE s d t L = 14 ∨ jwE s d t L = 15 := jcE_bd _ _ _ _
theorem jwE_ok {s : ByteArray} {d t L : Int} (h : jwE s d t L = 0) : nmB s = true ∧ (0 ≤ d ∧ d ≤ 253402300799) ∧ (1 ≤ t ∧ t ≤ 21) ∧ 0 ≤ L ∧ L ≤ 68719476736 := by
  obtain ⟨h1, h2, h3, h4⟩ := jcE_ok h
  simp at h3
  exact ⟨h1, h2, by omega, h4⟩
set_option maxHeartbeats 1000000 in
theorem wait_any (a : Int) (s : ByteArray) (d t L : Int) (ha : u64 a) (t0 : -9223372036854775808 ≤ t) (t1 : t ≤ 9223372036854775807) (w : World) (ht : Tab w) :
    Calls Tryd.prog 14 #[.int .u64 a, .string s, .int .i64 d, .int .i64 t, .int .i64 L] w fun e w' => e = .returned (.tuple #[.int .i64 (jwV a s d t L), .int .i64 (jwE s d t L)]) ∧ G w w' := by
  have HT := Lib.hid ht
  clear ht
  by_cases hE : jwE s d t L = 0
  · have HV : Hid (jwV a s d t L = jw a s d t L) := Lib.hid (if_pos hE)
    obtain ⟨hn, ⟨hd1, hd2⟩, ⟨ht1, ht2⟩, hL, hL2⟩ := jwE_ok hE
    have hsz := nmB_size hn
    have HE : Hid (jcE s d (decide (t < 1) || decide (21 < t)) L = 0) := Lib.hid hE
    rw [HV.out, hE]
    clear HV hE hn
    go_enter Tryd.func14, Tryd.ntmps14
    go_wp2_with fail
    go_at_call 38
    refine (checked_any s d _ L _).mono ?_
    rintro e w1 ⟨rfl, g1⟩
    rw [HE.out]
    go_wp2_with fail
    go_at_call 39
    refine (one_jit a s d t L ha hsz hd1 hd2 t0 t1 hL hL2 _ (HT.out.g g1)).mono ?_
    rintro e w2 ⟨rfl, g2⟩
    go_wp2_with fail
    go_ret2
    exact ⟨rfl, g1.trans g2⟩
  · have HV : Hid (jwV a s d t L = 0) := Lib.hid (if_neg hE)
    rw [HV.out]
    obtain ⟨q, hq⟩ : ∃ q, jwE s d t L = q := ⟨_, rfl⟩
    have HE : Hid (jcE s d (decide (t < 1) || decide (21 < t)) L = q) := Lib.hid hq
    rw [hq] at hE ⊢
    have h0 : (q == 0) = false := by simpa using hE
    have h1 : (q != 0) = true := by simpa using hE
    clear HV hE hq
    rcases Int.lt_or_le t 1 with hlt | hle
    all_goals (
      go_enter Tryd.func14, Tryd.ntmps14
      go_wp2_with fail
      go_at_call 38
      refine (checked_any s d _ L _).mono ?_
      rintro e w1 ⟨rfl, g1⟩
      first | rw [HE.out] | (rw [show (true : Bool) = (decide (t < 1) || decide (21 < t)) by simp [hlt]]; rw [HE.out])
      go_wp2_with fail
      go_ret2
      exact ⟨rfl, g1⟩)
end Go.Proofs.YtahjiiigpndaeaaDoor
