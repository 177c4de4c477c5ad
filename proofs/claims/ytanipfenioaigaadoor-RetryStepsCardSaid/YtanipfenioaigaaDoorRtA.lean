/-
  Package retry: its errors in plain words; check, after, Left, Earliest, Allowed, Next.
-/
import Derived.Test.YtanipfenioaigaaDoorBkP
import Derived.Test.YtanipfenioaigaaDoorJtR
set_option linter.unusedVariables false
set_option linter.unusedSimpArgs false
namespace Go.Proofs.YtanipfenioaigaaDoor
open Go.RowKit Go.Shelf

/-- a time is valid -/
def tmB (t : Int) : Prop := 0 ≤ t ∧ t ≤ 253402300799
instance (t : Int) : Decidable (tmB t) := by unfold tmB; exact inferInstance
/-- a duration is allowed -/
def spB (t : Int) : Prop := 0 ≤ t ∧ t ≤ 68719476736
instance (t : Int) : Decidable (spB t) := by unfold spB; exact inferInstance
set_option maxHeartbeats 400000 in
theorem istime_b (t : Int) (b : Bool) (h : decide (tmB t) = b) (w : World) :
    Calls Tryd.prog 42 #[.int .i64 t] w fun e w' => e = .returned (.bool b) ∧ w = w' := by
  subst h
  by_cases h0 : 0 ≤ t
  · by_cases h1 : t ≤ 253402300799
    · have e : decide (tmB t) = true := decide_eq_true ⟨h0, h1⟩
      rw [e]
      clear e
      go_enter Tryd.func42, Tryd.ntmps42
      go_wp2
      go_ret
      exact ⟨rfl, rfl⟩
    · have e : decide (tmB t) = false := decide_eq_false (fun h => h1 h.2)
      rw [e]
      have h2 : 253402300799 < t := by omega
      have h3 : decide (t ≤ 253402300799) = false := by simp; omega
      clear e h1
      go_enter Tryd.func42, Tryd.ntmps42
      go_wp2
      go_ret
      exact ⟨rfl, rfl⟩
  · have e : decide (tmB t) = false := decide_eq_false (fun h => h0 h.1)
    rw [e]
    have h2 : t < 0 := by omega
    clear e h0
    go_enter Tryd.func42, Tryd.ntmps42
    go_wp2
    go_ret
    exact ⟨rfl, rfl⟩
set_option maxHeartbeats 400000 in
theorem isspan_b (t : Int) (b : Bool) (h : decide (spB t) = b) (w : World) :
    Calls Tryd.prog 34 #[.int .i64 t] w fun e w' => e = .returned (.bool b) ∧ w = w' := by
  subst h
  by_cases h0 : 0 ≤ t
  · by_cases h1 : t ≤ 68719476736
    · have e : decide (spB t) = true := decide_eq_true ⟨h0, h1⟩
      rw [e]
      clear e
      go_enter Tryd.func34, Tryd.ntmps34
      go_wp2
      go_ret
      exact ⟨rfl, rfl⟩
    · have e : decide (spB t) = false := decide_eq_false (fun h => h1 h.2)
      rw [e]
      have h2 : 68719476736 < t := by omega
      have h3 : decide (t ≤ 68719476736) = false := by simp; omega
      clear e h1
      go_enter Tryd.func34, Tryd.ntmps34
      go_wp2
      go_ret
      exact ⟨rfl, rfl⟩
  · have e : decide (spB t) = false := decide_eq_false (fun h => h0 h.1)
    rw [e]
    have h2 : t < 0 := by omega
    clear e h0
    go_enter Tryd.func34, Tryd.ntmps34
    go_wp2
    go_ret
    exact ⟨rfl, rfl⟩
set_option maxHeartbeats 400000 in
theorem rvalid_b (t : Int) (b : Bool) (h : decide (tmB t) = b) (w : World) :
    Calls Tryd.prog 44 #[.int .i64 t] w fun e w' => e = .returned (.bool b) ∧ w = w' := by
  subst h
  by_cases h0 : 0 ≤ t
  · by_cases h1 : t ≤ 253402300799
    · have e : decide (tmB t) = true := decide_eq_true ⟨h0, h1⟩
      rw [e]
      clear e
      go_enter Tryd.func44, Tryd.ntmps44
      go_wp2
      go_ret
      exact ⟨rfl, rfl⟩
    · have e : decide (tmB t) = false := decide_eq_false (fun h => h1 h.2)
      rw [e]
      have h2 : 253402300799 < t := by omega
      have h3 : decide (t ≤ 253402300799) = false := by simp; omega
      clear e h1
      go_enter Tryd.func44, Tryd.ntmps44
      go_wp2
      go_ret
      exact ⟨rfl, rfl⟩
  · have e : decide (tmB t) = false := decide_eq_false (fun h => h0 h.1)
    rw [e]
    have h2 : t < 0 := by omega
    clear e h0
    go_enter Tryd.func44, Tryd.ntmps44
    go_wp2
    go_ret
    exact ⟨rfl, rfl⟩
set_option maxHeartbeats 400000 in
theorem rspan_b (t : Int) (b : Bool) (h : decide (spB t) = b) (w : World) :
    Calls Tryd.prog 38 #[.int .i64 t] w fun e w' => e = .returned (.bool b) ∧ w = w' := by
  subst h
  by_cases h0 : 0 ≤ t
  · by_cases h1 : t ≤ 68719476736
    · have e : decide (spB t) = true := decide_eq_true ⟨h0, h1⟩
      rw [e]
      clear e
      go_enter Tryd.func38, Tryd.ntmps38
      go_wp2
      go_ret
      exact ⟨rfl, rfl⟩
    · have e : decide (spB t) = false := decide_eq_false (fun h => h1 h.2)
      rw [e]
      have h2 : 68719476736 < t := by omega
      have h3 : decide (t ≤ 68719476736) = false := by simp; omega
      clear e h1
      go_enter Tryd.func38, Tryd.ntmps38
      go_wp2
      go_ret
      exact ⟨rfl, rfl⟩
  · have e : decide (spB t) = false := decide_eq_false (fun h => h0 h.1)
    rw [e]
    have h2 : t < 0 := by omega
    clear e h0
    go_enter Tryd.func38, Tryd.ntmps38
    go_wp2
    go_ret
    exact ⟨rfl, rfl⟩
/-- the error of a policy, a name, a due time and another time -/
def rtE (M B C J : Int) (s : ByteArray) (d t : Int) : Int := if okR M B C J then (if nmB s = true then (if tmB d ∧ tmB t then 0 else 14) else 15) else 16
theorem rtE_ok {M B C J : Int} {s : ByteArray} {d t : Int} (h : rtE M B C J s d t = 0) : okR M B C J ∧ nmB s = true ∧ tmB d ∧ tmB t := by
  unfold rtE at h
  split at h
  · split at h
    · split at h
      · exact ⟨by assumption, by assumption, by assumption⟩
      · omega
    · omega
  · omega
theorem rtE_bd (M B C J : Int) (s : ByteArray) (d t : Int) : rtE M B C J s d t = 0 ∨ rtE M B C J s d t = 14 ∨ rtE M B C J s d t = 15 ∨ rtE M B C J s d t = 16 := by
  unfold rtE
  split
  · split
    · split <;> simp
    · simp
  · simp
theorem okR_bd {M B C J : Int} (h : okR M B C J) : (0 ≤ M ∧ M ≤ 20) ∧ (0 ≤ J ∧ J ≤ 68719476736) := by unfold okR at h; omega
theorem jwE_one (s : ByteArray) (d : Int) : jwE s d 1 0 = if nmB s = true then (if tmB d then 0 else 14) else 15 := by
  unfold jwE jcE tmB
  simp
theorem jwV_bd (a : Int) (s : ByteArray) (d t L : Int) : 0 ≤ jwV a s d t L ∧ jwV a s d t L ≤ 68719476736 := by
  unfold jwV
  split
  · rename_i h
    obtain ⟨_, _, _, h1, h2⟩ := jwE_ok h
    exact jw_bd2 a s d t L h1 h2
  · omega
/-- how long after the end of an attempt the next one is ready -/
def aft (M B C J a : Int) (s : ByteArray) (d k : Int) : Int := waitI M B C J k + jwV a s d k J
theorem aft_bd (M B C J a : Int) (s : ByteArray) (d k : Int) : 0 ≤ aft M B C J a s d k ∧ aft M B C J a s d k ≤ 137438953472 := by
  unfold aft
  have h1 := waitI_bd M B C J k
  have h2 := jwV_bd a s d k J
  omega
/-- attempts that are left -/
def lfE (M B C J k : Int) : Int := if okR M B C J then (if 1 ≤ k ∧ k ≤ M + 1 then 0 else 3) else 16
def lfV (M B C J k : Int) : Int := if okR M B C J ∧ 1 ≤ k ∧ k ≤ M + 1 then M + 1 - k else 0
/-- the earliest time -/
def erE (M B C J k t : Int) : Int := if okR M B C J then (if tmB t then waitE M B C J k else 14) else 16
def erV (M B C J k t : Int) : Int := if erE M B C J k t = 0 then t + waitI M B C J k else 0
theorem erE_ok {M B C J k t : Int} (h : erE M B C J k t = 0) : okR M B C J ∧ tmB t ∧ 1 ≤ k ∧ k ≤ M := by
  unfold erE at h
  split at h
  · rename_i h1
    split at h
    · rename_i h2
      unfold waitE at h
      rw [if_pos h1] at h
      split at h
      · exact ⟨h1, h2, by assumption⟩
      · omega
    · omega
  · omega
theorem erE_bd (M B C J k t : Int) : erE M B C J k t = 0 ∨ erE M B C J k t = 3 ∨ erE M B C J k t = 14 ∨ erE M B C J k t = 16 := by
  unfold erE
  split
  · split
    · have := waitE_bd M B C J k
      omega
    · simp
  · simp
/-- whether a time is allowed -/
def alB (M B C J k t x : Int) : Bool := decide (erE M B C J k t = 0 ∧ erV M B C J k t ≤ x ∧ x < erV M B C J k t + max J 1)
/-- the next attempt -/
def nxE (M B C J : Int) (s : ByteArray) (d k t : Int) : Int := if rtE M B C J s d t = 0 then lfE M B C J k else rtE M B C J s d t
def nxB (M B C J : Int) (s : ByteArray) (d k t : Int) : Bool := decide (nxE M B C J s d k t = 0 ∧ k ≤ M)
def nxV (M B C J a : Int) (s : ByteArray) (d k t : Int) : Int := if nxB M B C J s d k t = true then t + aft M B C J a s d k else 0

theorem rtE_eq {M B C J : Int} (h : okR M B C J) (s : ByteArray) (d t : Int) : rtE M B C J s d t = if jwE s d 1 0 = 0 then (if tmB t then 0 else 14) else jwE s d 1 0 := by
  unfold rtE
  rw [if_pos h, jwE_one]
  by_cases hn : nmB s = true
  · rw [if_pos hn, if_pos hn]
    by_cases hd : tmB d
    · by_cases hx : tmB t <;> simp [hd, hx]
    · simp [hd]
  · simp [hn]
set_option maxHeartbeats 2000000 in
theorem ocheck_any (M B C J a : Int) (s : ByteArray) (d t : Int) (ha : u64 a) (w : World) (ht : Tab w) :
    Calls Tryd.prog 31 #[.agg #[.int .i64 M, .int .i64 B, .int .i64 C, .int .i64 J, .int .u64 a, .string s, .int .i64 d], .int .i64 t] w fun e w' => e = .returned (.int .i64 (rtE M B C J s d t)) ∧ G w w' := by
  have HT := Lib.hid ht
  clear ht
  by_cases hok : okR M B C J
  · have HC : Hid (chkE M B C J = 0) := Lib.hid (if_pos hok)
    have HR := Lib.hid (rtE_eq hok s d t)
    have HW := Lib.hid (fun w h => wait_any a s d 1 0 ha (by decide) (by decide) w h)
    obtain ⟨v, hv⟩ : ∃ v, jwV a s d 1 0 = v := ⟨_, rfl⟩
    obtain ⟨q, hq⟩ : ∃ q, jwE s d 1 0 = q := ⟨_, rfl⟩
    obtain ⟨r, hr⟩ : ∃ r, rtE M B C J s d t = r := ⟨_, rfl⟩
    rw [hv, hq] at HW
    rw [hq, hr] at HR
    rw [hr]
    clear hok hv hq hr
    by_cases hq : q = 0
    · by_cases hx : tmB t
      · obtain rfl : r = 0 := by have := HR.out; rw [if_pos hq, if_pos hx] at this; exact this
        have HX := Lib.hid (decide_eq_true hx)
        subst hq
        clear HR hx
        go_enter Tryd.func31, Tryd.ntmps31
        go_wp2_with fail
        go_at_call 41
        refine (check_any M B C J _).mono ?_
        rintro e w1 ⟨rfl, g1⟩
        rw [HC.out]
        have hb : Blk w1 w.heap.size 65 #[.int .i64 M, .int .i64 B, .int .i64 C, .int .i64 J, .int .u64 a, .string s, .int .i64 d] := Blk.g (Blk.new w _ _) g1
        have gW : G w w1 := ((G.refl w).alloc _).trans g1
        have c4 : w1.cell? ⟨w.heap.size, 4, none⟩ = some (.int .u64 a) := hb.cell 4
        have c5 : w1.cell? ⟨w.heap.size, 5, none⟩ = some (.string s) := hb.cell 5
        have c6 : w1.cell? ⟨w.heap.size, 6, none⟩ = some (.int .i64 d) := hb.cell 6
        clear hb g1
        go_wp2_with fail
        go_at_call 29
        refine (HW.out _ (HT.out.g gW)).mono ?_
        rintro e w2 ⟨rfl, g2⟩
        replace gW := gW.trans g2
        clear c4 c5 c6 g2
        go_wp2_with fail
        go_at_call 42
        refine (istime_b t true HX.out _).mono ?_
        rintro e w3 ⟨rfl, rfl⟩
        go_wp2_with fail
        go_ret
        exact ⟨rfl, gW⟩
      · obtain rfl : r = 14 := by have := HR.out; rw [if_pos hq, if_neg hx] at this; exact this
        have HX := Lib.hid (decide_eq_false hx)
        subst hq
        clear HR hx
        go_enter Tryd.func31, Tryd.ntmps31
        go_wp2_with fail
        go_at_call 41
        refine (check_any M B C J _).mono ?_
        rintro e w1 ⟨rfl, g1⟩
        rw [HC.out]
        have hb : Blk w1 w.heap.size 65 #[.int .i64 M, .int .i64 B, .int .i64 C, .int .i64 J, .int .u64 a, .string s, .int .i64 d] := Blk.g (Blk.new w _ _) g1
        have gW : G w w1 := ((G.refl w).alloc _).trans g1
        have c4 : w1.cell? ⟨w.heap.size, 4, none⟩ = some (.int .u64 a) := hb.cell 4
        have c5 : w1.cell? ⟨w.heap.size, 5, none⟩ = some (.string s) := hb.cell 5
        have c6 : w1.cell? ⟨w.heap.size, 6, none⟩ = some (.int .i64 d) := hb.cell 6
        clear hb g1
        go_wp2_with fail
        go_at_call 29
        refine (HW.out _ (HT.out.g gW)).mono ?_
        rintro e w2 ⟨rfl, g2⟩
        replace gW := gW.trans g2
        clear c4 c5 c6 g2
        go_wp2_with fail
        go_at_call 42
        refine (istime_b t false HX.out _).mono ?_
        rintro e w3 ⟨rfl, rfl⟩
        go_wp2_with fail
        go_ret
        exact ⟨rfl, gW⟩
    · obtain rfl : r = q := by have := HR.out; rw [if_neg hq] at this; exact this
      have h0 : (r == 0) = false := by simpa using hq
      have h1 : (r != 0) = true := by simpa using hq
      clear HR hq
      go_enter Tryd.func31, Tryd.ntmps31
      go_wp2_with fail
      go_at_call 41
      refine (check_any M B C J _).mono ?_
      rintro e w1 ⟨rfl, g1⟩
      rw [HC.out]
      have hb : Blk w1 w.heap.size 65 #[.int .i64 M, .int .i64 B, .int .i64 C, .int .i64 J, .int .u64 a, .string s, .int .i64 d] := Blk.g (Blk.new w _ _) g1
      have gW : G w w1 := ((G.refl w).alloc _).trans g1
      have c4 : w1.cell? ⟨w.heap.size, 4, none⟩ = some (.int .u64 a) := hb.cell 4
      have c5 : w1.cell? ⟨w.heap.size, 5, none⟩ = some (.string s) := hb.cell 5
      have c6 : w1.cell? ⟨w.heap.size, 6, none⟩ = some (.int .i64 d) := hb.cell 6
      clear hb g1
      go_wp2_with fail
      go_at_call 29
      refine (HW.out _ (HT.out.g gW)).mono ?_
      rintro e w2 ⟨rfl, g2⟩
      replace gW := gW.trans g2
      clear c4 c5 c6 g2
      go_wp2_with fail
      go_ret
      exact ⟨rfl, gW⟩
  · have HC : Hid (chkE M B C J = 16) := Lib.hid (if_neg hok)
    have HR : Hid (rtE M B C J s d t = 16) := Lib.hid (if_neg hok)
    rw [HR.out]
    clear HR hok
    go_enter Tryd.func31, Tryd.ntmps31
    go_wp2_with fail
    go_at_call 41
    refine (check_any M B C J _).mono ?_
    rintro e w1 ⟨rfl, g1⟩
    rw [HC.out]
    go_wp2_with fail
    go_ret
    exact ⟨rfl, (by repeat (first | exact G.refl _ | refine G.alloc ?_ _ | refine G.drewN ?_ _ | refine G.drew ?_ | refine G.trans ?_ (by assumption)))⟩
set_option maxHeartbeats 2000000 in
theorem after_any (M B C J a : Int) (s : ByteArray) (d k : Int) (ha : u64 a) (k0 : -9223372036854775808 ≤ k) (k1 : k ≤ 9223372036854775807) (w : World) (ht : Tab w) :
    Calls Tryd.prog 40 #[.agg #[.int .i64 M, .int .i64 B, .int .i64 C, .int .i64 J, .int .u64 a, .string s, .int .i64 d], .int .i64 k] w fun e w' => e = .returned (.int .i64 (aft M B C J a s d k)) ∧ G w w' := by
  have HT := Lib.hid ht
  clear ht
  have HW1 := Lib.hid (bwait_any M B C J k)
  have HW2 := Lib.hid (fun w h => wait_any a s d k J ha k0 k1 w h)
  obtain ⟨p0, p1⟩ := waitI_bd M B C J k
  obtain ⟨q0, q1⟩ := jwV_bd a s d k J
  unfold aft
  generalize waitI M B C J k = p at *
  generalize jwV a s d k J = q at *
  generalize waitE M B C J k = pe at *
  generalize jwE s d k J = qe at *
  go_enter Tryd.func40, Tryd.ntmps40
  go_wp2_with fail
  go_at_call 28
  refine (HW1.out _).mono ?_
  rintro e w1 ⟨rfl, g1⟩
  have hb : Blk w1 w.heap.size 65 #[.int .i64 M, .int .i64 B, .int .i64 C, .int .i64 J, .int .u64 a, .string s, .int .i64 d] := Blk.g (Blk.new w _ _) g1
  have gW : G w w1 := ((G.refl w).alloc _).trans g1
  have c3 : w1.cell? ⟨w.heap.size, 3, none⟩ = some (.int .i64 J) := hb.cell 3
  have c4 : w1.cell? ⟨w.heap.size, 4, none⟩ = some (.int .u64 a) := hb.cell 4
  have c5 : w1.cell? ⟨w.heap.size, 5, none⟩ = some (.string s) := hb.cell 5
  have c6 : w1.cell? ⟨w.heap.size, 6, none⟩ = some (.int .i64 d) := hb.cell 6
  clear hb g1
  go_wp2_with fail
  go_at_call 29
  refine (HW2.out _ (HT.out.g gW)).mono ?_
  rintro e w2 ⟨rfl, g2⟩
  go_wp2_with fail
  go_ret
  exact ⟨rfl, gW.trans g2⟩
set_option maxHeartbeats 2000000 in
theorem left_any (M B C J k : Int) (w : World) :
    Calls Tryd.prog 25 #[.agg #[.int .i64 M, .int .i64 B, .int .i64 C, .int .i64 J], .int .i64 k] w fun e w' => e = .returned (.tuple #[.int .i64 (lfV M B C J k), .int .i64 (lfE M B C J k)]) ∧ G w w' := by
  by_cases hok : okR M B C J
  · have HC : Hid (chkE M B C J = 0) := Lib.hid (if_pos hok)
    obtain ⟨⟨m0, m1⟩, -⟩ := okR_bd hok
    by_cases hk : 1 ≤ k ∧ k ≤ M + 1
    · have HE : Hid (lfE M B C J k = 0) := Lib.hid (by unfold lfE; rw [if_pos hok, if_pos hk])
      have HV : Hid (lfV M B C J k = M + 1 - k) := Lib.hid (if_pos ⟨hok, hk⟩)
      rw [HE.out, HV.out]
      clear HE HV hok
      obtain ⟨k0, k1⟩ := hk
      go_enter Tryd.func25, Tryd.ntmps25
      go_wp2_with fail
      go_at_call 41
      refine (check_any M B C J _).mono ?_
      rintro e w1 ⟨rfl, g1⟩
      rw [HC.out]
      have hb : Blk w1 w.heap.size 23 #[.int .i64 M, .int .i64 B, .int .i64 C, .int .i64 J] := Blk.g (Blk.new w _ _) g1
      have c0 : w1.cell? ⟨w.heap.size, 0, none⟩ = some (.int .i64 M) := hb.cell 0
      go_wp2_with fail
      go_ret2
      exact ⟨rfl, (by repeat (first | exact G.refl _ | refine G.alloc ?_ _ | refine G.drewN ?_ _ | refine G.drew ?_ | refine G.trans ?_ (by assumption)))⟩
    · have HE : Hid (lfE M B C J k = 3) := Lib.hid (by unfold lfE; rw [if_pos hok, if_neg hk])
      have HV : Hid (lfV M B C J k = 0) := Lib.hid (if_neg (fun h => hk h.2))
      rw [HE.out, HV.out]
      have hk2 : k < 1 ∨ 1 ≤ k ∧ M + 1 < k := by omega
      clear HE HV hok hk
      rcases hk2 with hk | ⟨hk0, hk⟩
      all_goals (
        go_enter Tryd.func25, Tryd.ntmps25
        go_wp2_with fail
        go_at_call 41
        refine (check_any M B C J _).mono ?_
        rintro e w1 ⟨rfl, g1⟩
        rw [HC.out]
        have hb : Blk w1 w.heap.size 23 #[.int .i64 M, .int .i64 B, .int .i64 C, .int .i64 J] := Blk.g (Blk.new w _ _) g1
        have c0 : w1.cell? ⟨w.heap.size, 0, none⟩ = some (.int .i64 M) := hb.cell 0
        go_wp2_with fail
        go_ret2
        exact ⟨rfl, (by repeat (first | exact G.refl _ | refine G.alloc ?_ _ | refine G.drewN ?_ _ | refine G.drew ?_ | refine G.trans ?_ (by assumption)))⟩)
  · have HC : Hid (chkE M B C J = 16) := Lib.hid (if_neg hok)
    have HE : Hid (lfE M B C J k = 16) := Lib.hid (if_neg hok)
    have HV : Hid (lfV M B C J k = 0) := Lib.hid (if_neg (fun h => hok h.1))
    rw [HE.out, HV.out]
    clear HE HV hok
    go_enter Tryd.func25, Tryd.ntmps25
    go_wp2_with fail
    go_at_call 41
    refine (check_any M B C J _).mono ?_
    rintro e w1 ⟨rfl, g1⟩
    rw [HC.out]
    go_wp2_with fail
    go_ret2
    exact ⟨rfl, (by repeat (first | exact G.refl _ | refine G.alloc ?_ _ | refine G.drewN ?_ _ | refine G.drew ?_ | refine G.trans ?_ (by assumption)))⟩
set_option maxHeartbeats 2000000 in
theorem earliest_any (M B C J k t : Int) (w : World) :
    Calls Tryd.prog 21 #[.agg #[.int .i64 M, .int .i64 B, .int .i64 C, .int .i64 J], .int .i64 k, .int .i64 t] w fun e w' => e = .returned (.tuple #[.int .i64 (erV M B C J k t), .int .i64 (erE M B C J k t)]) ∧ G w w' := by
  by_cases hok : okR M B C J
  · have HC : Hid (chkE M B C J = 0) := Lib.hid (if_pos hok)
    by_cases hx : tmB t
    · have HE : Hid (erE M B C J k t = waitE M B C J k) := Lib.hid (by unfold erE; rw [if_pos hok, if_pos hx])
      have HV : Hid (erV M B C J k t = if waitE M B C J k = 0 then t + waitI M B C J k else 0) := Lib.hid (by unfold erV; rw [HE.out])
      obtain ⟨p0, p1⟩ := waitI_bd M B C J k
      have hw := waitE_bd M B C J k
      rw [HE.out, HV.out]
      obtain ⟨x0, x1⟩ := id hx
      have HX := Lib.hid (decide_eq_true hx)
      clear HE HV hok hx
      have HB := Lib.hid (bwait_any M B C J k)
      generalize waitI M B C J k = p at *
      generalize waitE M B C J k = q at *
      rcases hw with rfl | rfl | rfl
      all_goals (
        go_enter Tryd.func21, Tryd.ntmps21
        go_wp2_with fail
        go_at_call 41
        refine (check_any M B C J _).mono ?_
        rintro e w1 ⟨rfl, g1⟩
        rw [HC.out]
        have hb : Blk w1 w.heap.size 23 #[.int .i64 M, .int .i64 B, .int .i64 C, .int .i64 J] := Blk.g (Blk.new w _ _) g1
        have c0 : w1.cell? ⟨w.heap.size, 0, none⟩ = some (.int .i64 M) := hb.cell 0
        have c1 : w1.cell? ⟨w.heap.size, 1, none⟩ = some (.int .i64 B) := hb.cell 1
        have c2 : w1.cell? ⟨w.heap.size, 2, none⟩ = some (.int .i64 C) := hb.cell 2
        have c3 : w1.cell? ⟨w.heap.size, 3, none⟩ = some (.int .i64 J) := hb.cell 3
        go_wp2_with fail
        go_at_call 42
        refine (istime_b t true HX.out _).mono ?_
        rintro e w3 ⟨rfl, rfl⟩
        go_wp2_with fail
        go_at_call 28
        refine (HB.out _).mono ?_
        rintro e w2 ⟨rfl, g2⟩
        go_wp2_with fail
        go_ret2
        exact ⟨rfl, (by repeat (first | exact G.refl _ | refine G.alloc ?_ _ | refine G.drewN ?_ _ | refine G.drew ?_ | refine G.trans ?_ (by assumption)))⟩)
    · have HE : Hid (erE M B C J k t = 14) := Lib.hid (by unfold erE; rw [if_pos hok, if_neg hx])
      have HV : Hid (erV M B C J k t = 0) := Lib.hid (by unfold erV; rw [HE.out]; rfl)
      rw [HE.out, HV.out]
      have HX := Lib.hid (decide_eq_false hx)
      clear hx hok HE HV
      go_enter Tryd.func21, Tryd.ntmps21
      go_wp2_with fail
      go_at_call 41
      refine (check_any M B C J _).mono ?_
      rintro e w1 ⟨rfl, g1⟩
      rw [HC.out]
      go_wp2_with fail
      go_at_call 42
      refine (istime_b t false HX.out _).mono ?_
      rintro e w3 ⟨rfl, rfl⟩
      go_wp2_with fail
      go_ret2
      exact ⟨rfl, (by repeat (first | exact G.refl _ | refine G.alloc ?_ _ | refine G.drewN ?_ _ | refine G.drew ?_ | refine G.trans ?_ (by assumption)))⟩
  · have HC : Hid (chkE M B C J = 16) := Lib.hid (if_neg hok)
    have HE : Hid (erE M B C J k t = 16) := Lib.hid (if_neg hok)
    have HV : Hid (erV M B C J k t = 0) := Lib.hid (by unfold erV; rw [HE.out]; rfl)
    rw [HE.out, HV.out]
    clear HE HV hok
    go_enter Tryd.func21, Tryd.ntmps21
    go_wp2_with fail
    go_at_call 41
    refine (check_any M B C J _).mono ?_
    rintro e w1 ⟨rfl, g1⟩
    rw [HC.out]
    go_wp2_with fail
    go_ret2
    exact ⟨rfl, (by repeat (first | exact G.refl _ | refine G.alloc ?_ _ | refine G.drewN ?_ _ | refine G.drew ?_ | refine G.trans ?_ (by assumption)))⟩
set_option maxHeartbeats 2000000 in
theorem allowed_any (M B C J k t x : Int) (x0 : -9223372036854775808 ≤ x) (x1 : x ≤ 9223372036854775807) (w : World) :
    Calls Tryd.prog 23 #[.agg #[.int .i64 M, .int .i64 B, .int .i64 C, .int .i64 J], .int .i64 k, .int .i64 t, .int .i64 x] w fun e w' => e = .returned (.tuple #[.bool (alB M B C J k t x), .int .i64 (erE M B C J k t)]) ∧ G w w' := by
  have HQ := Lib.hid (earliest_any M B C J k t)
  by_cases hE : erE M B C J k t = 0
  · obtain ⟨hok, hx, hk⟩ := erE_ok hE
    obtain ⟨-, j0, j1⟩ := okR_bd hok
    have hv : 0 ≤ erV M B C J k t ∧ erV M B C J k t ≤ 322121777535 := by
      unfold erV
      rw [if_pos hE]
      have := waitI_bd M B C J k
      unfold tmB at hx
      omega
    have HA : Hid (alB M B C J k t x = decide (erV M B C J k t ≤ x ∧ x < erV M B C J k t + max J 1)) := Lib.hid (by unfold alB; rw [hE]; simp)
    rw [hE] at HQ ⊢
    rw [HA.out]
    generalize erV M B C J k t = v at *
    obtain ⟨v0, v1⟩ := hv
    clear hE hok hx hk HA
    obtain ⟨m, hm⟩ : ∃ m, max J 1 = m := ⟨_, rfl⟩
    have HM : Hid ((if J < 1 then (1 : Int) else J) = m ∧ (if 1 < J then J else (1 : Int)) = m ∧ (if 1 ≤ J then J else (1 : Int)) = m) := Lib.hid ⟨by split <;> omega, by split <;> omega, by split <;> omega⟩
    have m0 : 1 ≤ m := by omega
    have m1 : m ≤ 68719476736 := by omega
    rw [hm]
    by_cases h1 : v ≤ x
    · have h2 : v + m ≤ 9223372036854775807 := by omega
      have HD : Hid (decide (v ≤ x ∧ x < v + m) = decide (x < v + m)) := Lib.hid (by simp [h1])
      rw [HD.out]
      clear HD
      by_cases hj : J < 1
      · obtain rfl : m = 1 := by omega
        clear hm HM
        go_enter Tryd.func23, Tryd.ntmps23
        go_wp2_with fail
        go_at_call 21
        refine (HQ.out _).mono ?_
        rintro e w1 ⟨rfl, g1⟩
        have hb : Blk w1 w.heap.size 23 #[.int .i64 M, .int .i64 B, .int .i64 C, .int .i64 J] := Blk.g (Blk.new w _ _) g1
        have c3 : w1.cell? ⟨w.heap.size, 3, none⟩ = some (.int .i64 J) := hb.cell 3
        go_wp2_with fail
        go_ret2
        exact ⟨rfl, (by repeat (first | exact G.refl _ | refine G.alloc ?_ _ | refine G.drewN ?_ _ | refine G.drew ?_ | refine G.trans ?_ (by assumption)))⟩
      · obtain rfl : m = J := by omega
        clear hm HM
        go_enter Tryd.func23, Tryd.ntmps23
        go_wp2_with fail
        go_at_call 21
        refine (HQ.out _).mono ?_
        rintro e w1 ⟨rfl, g1⟩
        have hb : Blk w1 w.heap.size 23 #[.int .i64 M, .int .i64 B, .int .i64 C, .int .i64 m] := Blk.g (Blk.new w _ _) g1
        have c3 : w1.cell? ⟨w.heap.size, 3, none⟩ = some (.int .i64 m) := hb.cell 3
        go_wp2_with fail
        go_ret2
        exact ⟨rfl, (by repeat (first | exact G.refl _ | refine G.alloc ?_ _ | refine G.drewN ?_ _ | refine G.drew ?_ | refine G.trans ?_ (by assumption)))⟩
    · have HD : Hid (decide (v ≤ x ∧ x < v + m) = false) := Lib.hid (by simp; omega)
      rw [HD.out]
      have h2 : x < v := by omega
      clear HD h1 hm HM
      go_enter Tryd.func23, Tryd.ntmps23
      go_wp2_with fail
      go_at_call 21
      refine (HQ.out _).mono ?_
      rintro e w1 ⟨rfl, g1⟩
      have hb : Blk w1 w.heap.size 23 #[.int .i64 M, .int .i64 B, .int .i64 C, .int .i64 J] := Blk.g (Blk.new w _ _) g1
      have c3 : w1.cell? ⟨w.heap.size, 3, none⟩ = some (.int .i64 J) := hb.cell 3
      go_wp2_with fail
      go_ret2
      exact ⟨rfl, (by repeat (first | exact G.refl _ | refine G.alloc ?_ _ | refine G.drewN ?_ _ | refine G.drew ?_ | refine G.trans ?_ (by assumption)))⟩
  · have HA : Hid (alB M B C J k t x = false) := Lib.hid (by unfold alB; exact decide_eq_false (fun h => hE h.1))
    have hV : erV M B C J k t = 0 := if_neg hE
    rw [HA.out]
    rw [hV] at HQ
    generalize erE M B C J k t = q at *
    have h0 : (q == 0) = false := by simpa using hE
    clear HA hE hV
    go_enter Tryd.func23, Tryd.ntmps23
    go_wp2_with fail
    go_at_call 21
    refine (HQ.out _).mono ?_
    rintro e w1 ⟨rfl, g1⟩
    go_wp2_with fail
    go_ret2
    exact ⟨rfl, (by repeat (first | exact G.refl _ | refine G.alloc ?_ _ | refine G.drewN ?_ _ | refine G.drew ?_ | refine G.trans ?_ (by assumption)))⟩
set_option maxHeartbeats 2000000 in
theorem next_any (M B C J a : Int) (s : ByteArray) (d k t : Int) (ha : u64 a) (k0 : -9223372036854775808 ≤ k) (k1 : k ≤ 9223372036854775807) (w : World) (ht : Tab w) :
    Calls Tryd.prog 17 #[.agg #[.int .i64 M, .int .i64 B, .int .i64 C, .int .i64 J], .int .u64 a, .string s, .int .i64 d, .int .i64 k, .int .i64 t] w fun e w' => e = .returned (.tuple #[.int .i64 (nxV M B C J a s d k t), .bool (nxB M B C J s d k t), .int .i64 (nxE M B C J s d k t)]) ∧ G w w' := by
  have HT := Lib.hid ht
  clear ht
  have HQ := Lib.hid (fun (w : World) (h : Tab w) => ocheck_any M B C J a s d t ha w h)
  have HF := Lib.hid (fun (w : World) (h : Tab w) => after_any M B C J a s d k ha k0 k1 w h)
  have HL := Lib.hid (left_any M B C J k)
  by_cases hE : rtE M B C J s d t = 0
  · have HE : Hid (nxE M B C J s d k t = lfE M B C J k) := Lib.hid (if_pos hE)
    obtain ⟨hok, hn, hd, hx⟩ := rtE_ok hE
    obtain ⟨⟨m0, m1⟩, -⟩ := okR_bd hok
    rw [hE] at HQ
    unfold tmB at hx
    by_cases hk : 1 ≤ k ∧ k ≤ M + 1
    · have HLE : Hid (lfE M B C J k = 0) := Lib.hid (by unfold lfE; rw [if_pos hok, if_pos hk])
      have HLV : Hid (lfV M B C J k = M + 1 - k) := Lib.hid (if_pos ⟨hok, hk⟩)
      rw [HLE.out, HLV.out] at HL
      by_cases hm : k ≤ M
      · have HB : Hid (nxB M B C J s d k t = true) := Lib.hid (decide_eq_true ⟨by rw [HE.out, HLE.out], hm⟩)
        have HV : Hid (nxV M B C J a s d k t = t + aft M B C J a s d k) := Lib.hid (if_pos HB.out)
        have hab := aft_bd M B C J a s d k
        rw [HV.out, HB.out, HE.out, HLE.out]
        generalize aft M B C J a s d k = q at *
        obtain ⟨a0, a1⟩ := hab
        obtain ⟨x0, x1⟩ := hx
        have hne : (M + 1 - k == 0) = false := by simp; omega
        clear HE HLE HLV HB HV hE hok hn hd
        obtain ⟨z, hz⟩ : ∃ z, M + 1 - k = z := ⟨_, rfl⟩
        rw [hz] at HL hne
        clear hz
        go_enter Tryd.func17, Tryd.ntmps17
        go_wp2_with fail
        go_at_call 31
        refine (HQ.out _ (HT.out.g (by first | exact G.refl _ | exact (G.refl _).alloc _ | exact ((G.refl _).alloc _).alloc _))).mono ?_
        rintro e w1 ⟨rfl, g1⟩
        have hr : Blk w1 w.heap.size 23 #[.int .i64 M, .int .i64 B, .int .i64 C, .int .i64 J] := ((Blk.new w _ _).alloc _).g g1
        have ho : Blk w1 (w.heap.size + 1) 65 #[.int .i64 M, .int .i64 B, .int .i64 C, .int .i64 J, .int .u64 a, .string s, .int .i64 d] := (Blk.new1 w _ _ _).g g1
        have c0 : w1.cell? ⟨w.heap.size, 0, none⟩ = some (.int .i64 M) := hr.cell 0
        have c1 : w1.cell? ⟨w.heap.size, 1, none⟩ = some (.int .i64 B) := hr.cell 1
        have c2 : w1.cell? ⟨w.heap.size, 2, none⟩ = some (.int .i64 C) := hr.cell 2
        have c3 : w1.cell? ⟨w.heap.size, 3, none⟩ = some (.int .i64 J) := hr.cell 3
        go_wp2_with fail
        go_at_call 25
        refine (HL.out _).mono ?_
        rintro e w2 ⟨rfl, g2⟩
        replace ho := ho.g g2
        clear c0 c1 c2 c3
        have o0 : w2.cell? ⟨w.heap.size + 1, 0, none⟩ = some (.int .i64 M) := ho.cell 0
        have o1 : w2.cell? ⟨w.heap.size + 1, 1, none⟩ = some (.int .i64 B) := ho.cell 1
        have o2 : w2.cell? ⟨w.heap.size + 1, 2, none⟩ = some (.int .i64 C) := ho.cell 2
        have o3 : w2.cell? ⟨w.heap.size + 1, 3, none⟩ = some (.int .i64 J) := ho.cell 3
        have o4 : w2.cell? ⟨w.heap.size + 1, 4, none⟩ = some (.int .u64 a) := ho.cell 4
        have o5 : w2.cell? ⟨w.heap.size + 1, 5, none⟩ = some (.string s) := ho.cell 5
        have o6 : w2.cell? ⟨w.heap.size + 1, 6, none⟩ = some (.int .i64 d) := ho.cell 6
        go_wp2_with fail
        go_at_call 40
        refine (HF.out _ (HT.out.g (by first | exact g1.trans g2 | exact (((G.refl _).alloc _).trans g1).trans g2 | exact ((((G.refl _).alloc _).alloc _).trans g1).trans g2))).mono ?_
        rintro e w3 ⟨rfl, g3⟩
        go_wp2_with fail
        go_ret3
        exact ⟨rfl, (by repeat (first | exact G.refl _ | refine G.alloc ?_ _ | refine G.drewN ?_ _ | refine G.drew ?_ | refine G.trans ?_ (by assumption)))⟩
      · obtain rfl : k = M + 1 := by omega
        have HB : Hid (nxB M B C J s d (M + 1) t = false) := Lib.hid (decide_eq_false (fun h => hm h.2))
        have HV : Hid (nxV M B C J a s d (M + 1) t = 0) := Lib.hid (if_neg (by rw [HB.out]; decide))
        rw [HV.out, HB.out, HE.out, HLE.out]
        rw [show M + 1 - (M + 1) = 0 by omega] at HL
        clear HE HLE HLV HB HV hE hok hn hd hx HF hm
        go_enter Tryd.func17, Tryd.ntmps17
        go_wp2_with fail
        go_at_call 31
        refine (HQ.out _ (HT.out.g (by first | exact G.refl _ | exact (G.refl _).alloc _ | exact ((G.refl _).alloc _).alloc _))).mono ?_
        rintro e w1 ⟨rfl, g1⟩
        have hr : Blk w1 w.heap.size 23 #[.int .i64 M, .int .i64 B, .int .i64 C, .int .i64 J] := ((Blk.new w _ _).alloc _).g g1
        have ho : Blk w1 (w.heap.size + 1) 65 #[.int .i64 M, .int .i64 B, .int .i64 C, .int .i64 J, .int .u64 a, .string s, .int .i64 d] := (Blk.new1 w _ _ _).g g1
        have c0 : w1.cell? ⟨w.heap.size, 0, none⟩ = some (.int .i64 M) := hr.cell 0
        have c1 : w1.cell? ⟨w.heap.size, 1, none⟩ = some (.int .i64 B) := hr.cell 1
        have c2 : w1.cell? ⟨w.heap.size, 2, none⟩ = some (.int .i64 C) := hr.cell 2
        have c3 : w1.cell? ⟨w.heap.size, 3, none⟩ = some (.int .i64 J) := hr.cell 3
        go_wp2_with fail
        go_at_call 25
        refine (HL.out _).mono ?_
        rintro e w2 ⟨rfl, g2⟩
        go_wp2_with fail
        go_ret3
        exact ⟨rfl, (by repeat (first | exact G.refl _ | refine G.alloc ?_ _ | refine G.drewN ?_ _ | refine G.drew ?_ | refine G.trans ?_ (by assumption)))⟩
    · have HLE : Hid (lfE M B C J k = 3) := Lib.hid (by unfold lfE; rw [if_pos hok, if_neg hk])
      have HLV : Hid (lfV M B C J k = 0) := Lib.hid (if_neg (fun h => hk h.2))
      have HB : Hid (nxB M B C J s d k t = false) := Lib.hid (decide_eq_false (fun h => by rw [HE.out, HLE.out] at h; omega))
      have HV : Hid (nxV M B C J a s d k t = 0) := Lib.hid (if_neg (by rw [HB.out]; decide))
      rw [HV.out, HB.out, HE.out, HLE.out]
      rw [HLE.out, HLV.out] at HL
      clear HE HLE HLV HB HV hE hok hn hd hx HF hk
      go_enter Tryd.func17, Tryd.ntmps17
      go_wp2_with fail
      go_at_call 31
      refine (HQ.out _ (HT.out.g (by first | exact G.refl _ | exact (G.refl _).alloc _ | exact ((G.refl _).alloc _).alloc _))).mono ?_
      rintro e w1 ⟨rfl, g1⟩
      have hr : Blk w1 w.heap.size 23 #[.int .i64 M, .int .i64 B, .int .i64 C, .int .i64 J] := ((Blk.new w _ _).alloc _).g g1
      have ho : Blk w1 (w.heap.size + 1) 65 #[.int .i64 M, .int .i64 B, .int .i64 C, .int .i64 J, .int .u64 a, .string s, .int .i64 d] := (Blk.new1 w _ _ _).g g1
      have c0 : w1.cell? ⟨w.heap.size, 0, none⟩ = some (.int .i64 M) := hr.cell 0
      have c1 : w1.cell? ⟨w.heap.size, 1, none⟩ = some (.int .i64 B) := hr.cell 1
      have c2 : w1.cell? ⟨w.heap.size, 2, none⟩ = some (.int .i64 C) := hr.cell 2
      have c3 : w1.cell? ⟨w.heap.size, 3, none⟩ = some (.int .i64 J) := hr.cell 3
      go_wp2_with fail
      go_at_call 25
      refine (HL.out _).mono ?_
      rintro e w2 ⟨rfl, g2⟩
      go_wp2_with fail
      go_ret3
      exact ⟨rfl, (by repeat (first | exact G.refl _ | refine G.alloc ?_ _ | refine G.drewN ?_ _ | refine G.drew ?_ | refine G.trans ?_ (by assumption)))⟩
  · have HE : Hid (nxE M B C J s d k t = rtE M B C J s d t) := Lib.hid (if_neg hE)
    have HB : Hid (nxB M B C J s d k t = false) := Lib.hid (decide_eq_false (fun h => hE (by rw [← HE.out]; exact h.1)))
    have HV : Hid (nxV M B C J a s d k t = 0) := Lib.hid (if_neg (by rw [HB.out]; decide))
    rw [HV.out, HB.out, HE.out]
    generalize rtE M B C J s d t = q at *
    have h0 : (q == 0) = false := by simpa using hE
    have h1 : (q != 0) = true := by simpa using hE
    clear HE HB HV hE HF HL
    go_enter Tryd.func17, Tryd.ntmps17
    go_wp2_with fail
    go_at_call 31
    refine (HQ.out _ (HT.out.g (by first | exact G.refl _ | exact (G.refl _).alloc _ | exact ((G.refl _).alloc _).alloc _))).mono ?_
    rintro e w1 ⟨rfl, g1⟩
    go_wp2_with fail
    go_ret3
    exact ⟨rfl, (by repeat (first | exact G.refl _ | refine G.alloc ?_ _ | refine G.drewN ?_ _ | refine G.drew ?_ | refine G.trans ?_ (by assumption)))⟩
end Go.Proofs.YtanipfenioaigaaDoor
