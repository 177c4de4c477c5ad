/-
  Jitters: Spread, on both sides.
-/
import Derived.Test.YtahjiiigpndaeaaDoorJtE
set_option linter.unusedVariables false
set_option linter.unusedSimpArgs false
namespace Go.Proofs.YtahjiiigpndaeaaDoor
open Go.RowKit Go.Shelf

def spB (st n : Int) : Bool := decide (st < 1) || decide (68719476736 < st) || decide (n < 0) || decide (1000 < n)
/-- the last due time is too late -/
def spT (d st n : Int) : Prop := 0 < n ∧ 253402300799 < d + (n - 1) * st
instance (d st n : Int) : Decidable (spT d st n) := by unfold spT; infer_instance
def sdE (s : ByteArray) (d st n L : Int) : Int := if jcE s d (spB st n) L = 0 then (if spT d st n then 14 else 0) else jcE s d (spB st n) L
theorem sdE_bd (s : ByteArray) (d st n L : Int) : sdE s d st n L = 0 ∨ sdE s d st n L = 2 ∨ sdE s d st n L = 14 ∨ sdE s d st n L = 15 := by
  unfold sdE
  have := jcE_bd s d (spB st n) L
  split
  · split <;> simp
  · exact this
theorem sdE_ok {s : ByteArray} {d st n L : Int} (h : jcE s d (spB st n) L = 0) : s.size ≤ 24 ∧ (0 ≤ d ∧ d ≤ 253402300799) ∧ ((1 ≤ st ∧ st ≤ 68719476736) ∧ 0 ≤ n ∧ n ≤ 1000) ∧ 0 ≤ L ∧ L ≤ 68719476736 := by
  obtain ⟨h1, h2, h3, h4⟩ := jcE_ok h
  unfold spB at h3
  simp at h3
  exact ⟨nmB_size h1, h2, by omega, h4⟩
/-- the jitter of the occurrence i -/
def spF (a : Int) (s : ByteArray) (d st L : Int) (i : Nat) : Int := jw a s (d + (i : Int) * st) 1 L
def spL (a : Int) (s : ByteArray) (d st n L : Int) : List Int := if sdE s d st n L = 0 then (List.range n.toNat).map (spF a s d st L) else []
theorem madeCells_one (z : Value) (n : Nat) : madeCells #[z] (n * 1) = Array.replicate n z := by
  apply Array.ext'
  rw [Nat.mul_one, toList_madeCells_one]; simp
theorem vI_rep (n : Nat) : Array.replicate n (Value.int .i64 0) = (vI .i64 (List.replicate n 0)).toArray := by
  apply Array.ext'
  simp [vI]
theorem make_i64s (n : Nat) (hn : n ≤ 281474976710656 / 8) (W : World) :
    (Instr.makeSlice 27 (.int .i64 (n : Int)) (.int .i64 (n : Int))).run Tryd.prog W = .ok (.slice (some ⟨W.heap.size, 0, none⟩) n n) (W.alloc (.cells (vI .i64 (List.replicate n 0)).toArray 2)) := by
  obtain ⟨i0, hi, hz0, hz1, hz2⟩ := info_parts info_i64
  have h := run_make (P := Tryd.prog) W 27 2 i0 (.int .i64 0) Tryd.underlying27 hi hz0 .i64 .i64 n n (by omega) (Int.le_refl _) (by rw [hz2]; omega) (by omega)
  simp only [Int.toNat_natCast] at h
  rw [h, hz1, show (Value.int IntKind.i64 0).cells = #[Value.int IntKind.i64 0] from rfl, madeCells_one, vI_rep]
theorem vI_set (k : IntKind) (l : List Int) (i : Nat) (x : Int) : (vI k l).toArray.setIfInBounds i (.int k x) = (vI k (l.set i x)).toArray := by
  simp [vI, List.map_set]
/-- the list while it is being filled -/
def filled (f : Nat → Int) (m k : Nat) : List Int := (List.range m).map (fun i => if i < k then f i else 0)
theorem filled_zero (f : Nat → Int) (m : Nat) : filled f m 0 = List.replicate m 0 := by
  unfold filled
  rw [show (fun i => if i < 0 then f i else 0) = fun _ => (0 : Int) from funext (fun i => by simp)]
  simp [List.map_const']
theorem filled_len (f : Nat → Int) (m k : Nat) : (filled f m k).length = m := by simp [filled]
theorem filled_all (f : Nat → Int) (m : Nat) : filled f m m = (List.range m).map f := by
  unfold filled
  apply List.map_congr_left
  intro i hi
  rw [if_pos (List.mem_range.1 hi)]
theorem filled_set (f : Nat → Int) (m k : Nat) (hk : k < m) : (filled f m k).set k (f k) = filled f m (k + 1) := by
  unfold filled
  apply List.ext_getElem?
  intro i
  rw [List.getElem?_set]
  simp only [List.length_map, List.length_range, List.getElem?_map]
  by_cases hi : i < m
  · rw [List.getElem?_range hi]
    by_cases e : k = i
    · subst e
      simp [hk]
    · simp only [e, if_false, Option.map_some]
      by_cases h2 : i < k
      · rw [if_pos h2, if_pos (by omega)]
      · rw [if_neg h2, if_neg (by omega)]
  · rw [List.getElem?_eq_none (by simpa using hi)]
    by_cases e : k = i
    · omega
    · simp [e]
theorem due_le {st : Int} {i m : Nat} (hst : 1 ≤ st) (hi : i < m) : (i : Int) * st ≤ ((m : Int) - 1) * st := Int.mul_le_mul_of_nonneg_right (by omega) (by omega)
theorem due_nn {st : Int} {i : Nat} (hst : 1 ≤ st) : 0 ≤ (i : Int) * st := Int.mul_nonneg (by omega) (by omega)
theorem due_big {st : Int} {i : Nat} (h0 : 1 ≤ st) (h1 : st ≤ 68719476736) (hi : i ≤ 1000) : (i : Int) * st ≤ 68719476736000 := by
  have h2 : (i : Int) * st ≤ 1000 * st := Int.mul_le_mul_of_nonneg_right (by omega) (by omega)
  omega
set_option maxHeartbeats 2000000 in
theorem jspread_any (a : Int) (s : ByteArray) (d st n L : Int) (ha : u64 a) (n0 : -9223372036854775808 ≤ n) (n1 : n ≤ 9223372036854775807) (w : World) (ht : Tab w) :
    Calls Tryd.prog 17 #[.int .u64 a, .string s, .int .i64 d, .int .i64 st, .int .i64 n, .int .i64 L] w fun e w' => ∃ v, e = .returned (.tuple #[v, .int .i64 (sdE s d st n L)]) ∧ Rd w' v (vI .i64 (spL a s d st n L)) ∧ G w w' := by
  have HT := Lib.hid ht
  clear ht
  by_cases hE : jcE s d (spB st n) L = 0
  · obtain ⟨hsz, ⟨hd0, hd1⟩, ⟨⟨hs0, hs1⟩, hq0, hq1⟩, hL0, hL1⟩ := sdE_ok hE
    have HE : Hid (jcE s d (decide (st < 1) || decide (68719476736 < st) || decide (n < 0) || decide (1000 < n)) L = 0) := Lib.hid hE
    obtain ⟨m, rfl⟩ : ∃ m : Nat, n = m := ⟨n.toNat, by omega⟩
    have hm : m ≤ 1000 := by omega
    by_cases hT : spT d st m
    · have h5 : sdE s d st m L = 14 := by unfold sdE; rw [if_pos hE, if_pos hT]
      have h6 : spL a s d st m L = [] := by unfold spL; rw [if_neg (by rw [h5]; decide)]
      rw [h5, h6]
      obtain ⟨hm0, hbig⟩ := hT
      obtain ⟨k, hk⟩ : ∃ k : Nat, (m : Int) - 1 = k := ⟨m - 1, by omega⟩
      rw [hk] at hbig
      have hb1 := due_nn (i := k) hs0
      have hb2 := due_big (i := k) hs0 hs1 (by omega)
      have H0 : Hid (IntKind.i64.wrap ((m : Int) - 1) = (k : Int)) := Lib.hid (by rw [IntKind.wrap_i64]; omega)
      have H1 : Hid (IntKind.i64.wrap ((k : Int) * st) = (k : Int) * st) := Lib.hid (by rw [IntKind.wrap_i64]; omega)
      have H2 : Hid (IntKind.i64.wrap (d + (k : Int) * st) = d + (k : Int) * st) := Lib.hid (by rw [IntKind.wrap_i64]; omega)
      have H3 := Lib.hid hbig
      clear hE h5 h6 hk hb1 hb2 hbig
      go_enter Tryd.func17, Tryd.ntmps17
      go_wp2_with fail
      go_at_call 38
      refine (checked_any s d _ L _).mono ?_
      rintro e w1 ⟨rfl, g1⟩
      rw [HE.out]
      have q0 := H0.out
      have q1 := H1.out
      have q2 := H2.out
      have q3 := H3.out
      have hm0' : (0 : Int) < m := hm0
      go_wp2_with fail
      go_ret2
      exact ⟨_, rfl, Rd.nil _, g1⟩
    · have h5 : sdE s d st m L = 0 := by unfold sdE; rw [if_pos hE, if_neg hT]
      have h6 : spL a s d st m L = filled (spF a s d st L) m m := by unfold spL; rw [if_pos h5, Int.toNat_natCast, filled_all]
      rw [h5, h6]
      have hmk := fun W => make_i64s m (by omega) W
      have HD : Hid (∀ k, k < m → d + (k : Int) * st ≤ 253402300799) := Lib.hid (fun k hk => by
        have h1 := due_le (m := m) hs0 hk
        have h2 : ¬ (0 < (m : Int) ∧ 253402300799 < d + ((m : Int) - 1) * st) := hT
        have h3 : ¬ 253402300799 < d + ((m : Int) - 1) * st := fun h => h2 ⟨by omega, h⟩
        generalize ((m : Int) - 1) * st = X at h1 h3
        generalize (k : Int) * st = Y at h1 ⊢
        omega)
      clear hE h5 h6 hT
      have HMK := Lib.hid hmk
      clear hmk
      rcases Nat.eq_zero_or_pos m with hz | hmp
      · have hm0 : (m : Int) ≤ 0 := by omega
        clear hz
        go_enter Tryd.func17, Tryd.ntmps17
        go_wp2_with fail
        go_at_call 38
        refine (checked_any s d _ L _).mono ?_
        rintro e w1 ⟨rfl, g1⟩
        rw [HE.out]
        have hmk := HMK.out
        go_wp2_with fail
        go_loopw [53] (fun kv wr => ∃ k : Nat, k ≤ m ∧ kv = .int .i64 k ∧ G w1 wr ∧ Blk wr w1.heap.size 2 (vI .i64 (filled (spF a s d st L) m k)).toArray) (fun kv _ => m - (intOf kv).toNat)
        case atStart => exact ⟨0, by omega, rfl, (G.refl _).alloc _, by rw [filled_zero]; exact Blk.new _ _ _⟩
        case round =>
          obtain ⟨k, hk, rfl, hg, hB⟩ := hrel
          by_cases hlt : k < m
          · exact absurd hlt (by omega)
          · obtain rfl : k = m := by omega
            have hr := Rd.ints hB (by rw [filled_len]; omega)
            rw [filled_len] at hr
            go_wp2_with fail
            go_ret2
            exact ⟨_, rfl, hr, g1.trans hg⟩
      · obtain ⟨k, hk⟩ : ∃ k : Nat, (m : Int) - 1 = k := ⟨m - 1, by omega⟩
        have hb1 := due_nn (i := k) hs0
        have hb2 := due_big (i := k) hs0 hs1 (by omega)
        have hb3 := HD.out k (by omega)
        have H0 : Hid (IntKind.i64.wrap ((m : Int) - 1) = (k : Int)) := Lib.hid (by rw [IntKind.wrap_i64]; omega)
        have H1 : Hid (IntKind.i64.wrap ((k : Int) * st) = (k : Int) * st) := Lib.hid (by rw [IntKind.wrap_i64]; omega)
        have H2 : Hid (IntKind.i64.wrap (d + (k : Int) * st) = d + (k : Int) * st) := Lib.hid (by rw [IntKind.wrap_i64]; omega)
        have H3 := Lib.hid hb3
        have hm0 : (0 : Int) < m := by omega
        clear hk hb1 hb2 hb3
        go_enter Tryd.func17, Tryd.ntmps17
        go_wp2_with fail
        go_at_call 38
        refine (checked_any s d _ L _).mono ?_
        rintro e w1 ⟨rfl, g1⟩
        rw [HE.out]
        have q0 := H0.out
        have q1 := H1.out
        have q2 := H2.out
        have q3 := H3.out
        have hmk := HMK.out
        go_wp2_with fail
        go_loopw [53] (fun kv wr => ∃ k : Nat, k ≤ m ∧ kv = .int .i64 k ∧ G w1 wr ∧ Blk wr w1.heap.size 2 (vI .i64 (filled (spF a s d st L) m k)).toArray) (fun kv _ => m - (intOf kv).toNat)
        case atStart => exact ⟨0, by omega, rfl, (G.refl _).alloc _, by rw [filled_zero]; exact Blk.new _ _ _⟩
        case round =>
          obtain ⟨k, hk, rfl, hg, hB⟩ := hrel
          clear q0 q1 q2 q3
          by_cases hlt : k < m
          · have hkm : (k : Int) < m := by omega
            have hb1 := due_nn (i := k) hs0
            have hb2 := due_big (i := k) hs0 hs1 (by omega)
            have hb3 := HD.out k hlt
            have p1 : IntKind.i64.wrap ((k : Int) * st) = (k : Int) * st := by rw [IntKind.wrap_i64]; omega
            have p2 : IntKind.i64.wrap (d + (k : Int) * st) = d + (k : Int) * st := by rw [IntKind.wrap_i64]; omega
            have p3 : 0 ≤ d + (k : Int) * st := by omega
            have HS := Lib.hid (filled_set (spF a s d st L) m k hlt)
            have HF : Hid (spF a s d st L k = jw a s (d + (k : Int) * st) 1 L) := Lib.hid rfl
            have HT2 := Lib.hid (HT.out.g (g1.trans hg))
            have hfl := filled_len (spF a s d st L) m k
            clear hb1 hb2 hmk
            go_wp2_with fail
            go_at_call 39
            refine (one_jit a s (d + (k : Int) * st) 1 L ha hsz p3 hb3 (by omega) (by omega) hL0 hL1 _ HT2.out).mono ?_
            rintro e w2 ⟨rfl, g2⟩
            rw [← HF.out]
            have hB2 := hB.g g2
            have hg2 := hg.trans g2
            have d0 : w2.cell? ⟨w1.heap.size, k, none⟩ = some (.int .i64 (at_ (filled (spF a s d st L) m k) k)) := by rw [hB2.cell k]; have := vI_get (k := .i64) (l := filled (spF a s d st L) m k) (j := k) (by omega); simpa [at_] using this
            have f0 := hB2.frozen k
            clear p1 p2 p3 hfl
            generalize hX : spF a s d st L k = X at *
            go_wp2_with fail
            go_roundw
            case rel =>
              refine ⟨k + 1, by omega, by go_num, hg2.setCell (p := ⟨w1.heap.size, k, none⟩) (Nat.le_refl _) _, ?_⟩
              have h2 := hB2.set_ k (.int .i64 X)
              rw [vI_set, HS.out] at h2
              exact h2
            case measure => simp [intOf]; omega
          · obtain rfl : k = m := by omega
            have hr := Rd.ints hB (by rw [filled_len]; omega)
            rw [filled_len] at hr
            go_wp2_with fail
            go_ret2
            exact ⟨_, rfl, hr, g1.trans hg⟩
  · have h5 : sdE s d st n L = jcE s d (spB st n) L := by unfold sdE; rw [if_neg hE]
    have h6 : spL a s d st n L = [] := by unfold spL; rw [if_neg (by rw [h5]; exact hE)]
    rw [h5, h6]
    obtain ⟨q, hq⟩ : ∃ q, jcE s d (spB st n) L = q := ⟨_, rfl⟩
    have HE : Hid (jcE s d (decide (st < 1) || decide (68719476736 < st) || decide (n < 0) || decide (1000 < n)) L = q) := Lib.hid hq
    rw [hq] at hE ⊢
    have h0 : (q == 0) = false := by simpa using hE
    have h1 : (q != 0) = true := by simpa using hE
    clear hE hq h5 h6
    have hcs : st < 1 ∨ (1 ≤ st ∧ 68719476736 < st) ∨ ((1 ≤ st ∧ st ≤ 68719476736) ∧ n < 0) ∨ ((1 ≤ st ∧ st ≤ 68719476736) ∧ 0 ≤ n) := by omega
    rcases hcs with hc | ⟨hc, hc2⟩ | ⟨⟨hc, hc2⟩, hc3⟩ | ⟨⟨hc, hc2⟩, hc3⟩
    all_goals (
      go_enter Tryd.func17, Tryd.ntmps17
      go_wp2_with fail
      go_at_call 38
      refine (checked_any s d _ L _).mono ?_
      rintro e w1 ⟨rfl, g1⟩
      first | rw [HE.out] | (rw [show (true : Bool) = (decide (st < 1) || decide (68719476736 < st) || decide (n < 0) || decide (1000 < n)) by simp [*]]; rw [HE.out])
      go_wp2_with fail
      go_ret2
      exact ⟨_, rfl, Rd.nil _, g1⟩)
theorem spF_succ (a : Int) (s : ByteArray) (d st L : Int) (k : Nat) : vI .i64 ((List.range (k + 1)).map (spF a s d st L)) = vI .i64 ((List.range k).map (spF a s d st L)) ++ [.int .i64 (spF a s d st L k)] := by
  simp [vI, List.range_succ]
theorem jcE_or (s : ByteArray) (d : Int) (x y : Bool) (L : Int) : jcE s d (x || y) L = if jcE s d x L = 0 then (if y = true then 2 else 0) else jcE s d x L := by
  unfold jcE
  cases x <;> cases y <;> by_cases h1 : nmB s = true <;> by_cases h2 : 0 ≤ d ∧ d ≤ 253402300799 <;> by_cases h3 : 0 ≤ L ∧ L ≤ 68719476736 <;> simp [h1, h2, h3]
theorem spB_or (st n : Int) : spB st n = ((decide (n < 0) || decide (1000 < n)) || !(decide (1 ≤ st ∧ st ≤ 68719476736))) := by
  unfold spB
  by_cases h1 : st < 1
  · rw [decide_eq_true h1, decide_eq_false (by omega : ¬ (1 ≤ st ∧ st ≤ 68719476736))]; simp
  · by_cases h2 : 68719476736 < st
    · rw [decide_eq_true h2, decide_eq_false (by omega : ¬ (1 ≤ st ∧ st ≤ 68719476736))]; simp
    · rw [decide_eq_false h1, decide_eq_false h2, decide_eq_true (by omega : (1 ≤ st ∧ st ≤ 68719476736))]; simp
theorem jcE_step {s : ByteArray} {d st n L : Int} : jcE s d (spB st n) L = if jcE s d (decide (n < 0) || decide (1000 < n)) L = 0 then (if 1 ≤ st ∧ st ≤ 68719476736 then 0 else 2) else jcE s d (decide (n < 0) || decide (1000 < n)) L := by
  rw [spB_or, jcE_or]
  by_cases h : 1 ≤ st ∧ st ≤ 68719476736
  · simp [h]
  · rw [decide_eq_false h, if_neg h]; simp
set_option maxRecDepth 8000 in
set_option maxHeartbeats 2000000 in
theorem rjspread_any (a : Int) (s : ByteArray) (d st n L : Int) (ha : u64 a) (hs2 : s.size < 9223372036854775807) (n0 : -9223372036854775808 ≤ n) (n1 : n ≤ 9223372036854775807) (w : World) :
    Calls Tryd.prog 21 #[.int .u64 a, .string s, .int .i64 d, .int .i64 st, .int .i64 n, .int .i64 L] w fun e w' => ∃ v, e = .returned (.tuple #[v, .int .i64 (sdE s d st n L)]) ∧ Rd w' v (vI .i64 (spL a s d st n L)) ∧ G w w' := by
  by_cases hE : jcE s d (decide (n < 0) || decide (1000 < n)) L = 0
  · have HE := Lib.hid hE
    by_cases hst : 1 ≤ st ∧ st ≤ 68719476736
    · have hE2 : jcE s d (spB st n) L = 0 := by rw [jcE_step, if_pos hE, if_pos hst]
      obtain ⟨hsz, ⟨hd0, hd1⟩, ⟨⟨hs0, hs1⟩, hq0, hq1⟩, hL0, hL1⟩ := sdE_ok hE2
      obtain ⟨m, rfl⟩ : ∃ m : Nat, n = m := ⟨n.toNat, by omega⟩
      have hm : m ≤ 1000 := by omega
      have HT : Hid (∀ k : Nat, k < m → 253402300799 < d + (k : Int) * st → sdE s d st m L = 14 ∧ spL a s d st m L = []) := Lib.hid (fun k hk hb => by
        have h1 := due_le (m := m) hs0 hk
        have h2 : spT d st m := ⟨by omega, by
          generalize ((m : Int) - 1) * st = X at h1 ⊢
          generalize (k : Int) * st = Y at h1 hb
          omega⟩
        have h5 : sdE s d st m L = 14 := by unfold sdE; rw [if_pos hE2, if_pos h2]
        exact ⟨h5, by unfold spL; rw [if_neg (by rw [h5]; decide)]⟩)
      have HO : Hid ((∀ k : Nat, k < m → d + (k : Int) * st ≤ 253402300799) → sdE s d st m L = 0 ∧ spL a s d st m L = (List.range m).map (spF a s d st L)) := Lib.hid (fun h => by
        have h2 : ¬ spT d st m := fun h3 => by
          obtain ⟨h4, h5⟩ := h3
          have h6 := h (m - 1) (by omega)
          rw [show ((m - 1 : Nat) : Int) = (m : Int) - 1 by omega] at h6
          omega
        have h5 : sdE s d st m L = 0 := by unfold sdE; rw [if_pos hE2, if_neg h2]
        exact ⟨h5, by unfold spL; rw [if_pos h5, Int.toNat_natCast]⟩)
      obtain ⟨i0, hi, hz0, hz1, hz2⟩ := info_parts info_i64
      obtain ⟨E, hEq⟩ : ∃ E, sdE s d st m L = E := ⟨_, rfl⟩
      obtain ⟨M, hMq⟩ : ∃ M, spL a s d st m L = M := ⟨_, rfl⟩
      rw [hEq, hMq] at HT HO ⊢
      clear hE hE2 hst hEq hMq
      go_enter Tryd.func21, Tryd.ntmps21
      go_wp2_with fail
      go_at_call 42
      refine (rjcheck_any s hs2 d m 0 1000 L _).mono ?_
      rintro e w1 ⟨rfl, g1⟩
      rw [HE.out]
      go_wp2_with fail
      go_loopw [15, 16] (fun ov kv wr => ∃ k : Nat, k ≤ m ∧ kv = .int .i64 k ∧ (∀ j : Nat, j < k → d + (j : Int) * st ≤ 253402300799) ∧ G w1 wr ∧ wr.ownsRow w1.heap.size 2 1 ov k (vI .i64 ((List.range k).map (spF a s d st L)))) (fun _ kv _ => m - (intOf kv).toNat)
      case atStart => exact ⟨0, by omega, rfl, fun j hj => absurd hj (by omega), G.refl _, World.ownsRow_nil _ _ _ _⟩
      case round =>
        obtain ⟨k, hk, rfl, hd, hg, hown⟩ := hrel
        have HD := Lib.hid hd
        clear hd
        by_cases hlt : k < m
        · have hkm : (k : Int) < m := by omega
          have hb1 := due_nn (i := k) hs0
          have hb2 := due_big (i := k) hs0 hs1 (by omega)
          have p1 : IntKind.i64.wrap ((k : Int) * st) = (k : Int) * st := by rw [IntKind.wrap_i64]; omega
          have p2 : IntKind.i64.wrap (d + (k : Int) * st) = d + (k : Int) * st := by rw [IntKind.wrap_i64]; omega
          by_cases hlate : 253402300799 < d + (k : Int) * st
          · obtain ⟨e1, e2⟩ := HT.out k hlt hlate
            have E1 := Lib.hid e1
            have E2 := Lib.hid e2
            clear hb1 hb2 e1 e2
            go_wp2_with fail
            go_ret2
            exact ⟨_, by rw [E1.out]; rfl, by rw [E2.out]; exact Rd.nil _, (by repeat (first | exact G.refl _ | refine G.alloc ?_ _ | refine G.drewN ?_ _ | refine G.drew ?_ | refine G.trans ?_ (by assumption)))⟩
          · have hle : d + (k : Int) * st ≤ 253402300799 := by omega
            have HD2 : Hid (∀ j : Nat, j < k + 1 → d + (j : Int) * st ≤ 253402300799) := Lib.hid (fun j hj => by
              rcases Nat.lt_or_ge j k with h | h
              · exact HD.out j h
              · obtain rfl : j = k := by omega
                exact hle)
            have p3 : 0 ≤ d + (k : Int) * st := by omega
            have HU := Lib.hid (spF_succ a s d st L k)
            have HF : Hid (spF a s d st L k = jw a s (d + (k : Int) * st) 1 L) := Lib.hid rfl
            clear hb1 hb2 hlate
            go_wp2_with fail
            go_at_call 43
            refine (rjw_any a s (d + (k : Int) * st) 1 L ha hsz p3 hle (by omega) (by omega) hL0 hL1 _).mono ?_
            rintro e w2 ⟨rfl, g2⟩
            rw [← HF.out]
            generalize spF a s d st L k = x at *
            have hg2 := hg.trans g2
            have hsz2 := hg2.size
            have hown2 := ownsRow_g hown g2
            clear p1 p2 p3 hle
            go_wp2_with (at_builtin; refine wpList_append_own _ rfl _ _ 27 rfl w1.heap.size 2 i0 (.int .i64 0) 1 8 Tryd.underlying27 hi hz0 hz1 hz2 rfl (by decide) _ _ _ rfl (hown2.alloc _) ⟨w2.heap.size, 0, none⟩ 1 1 [.int .i64 x] rfl rfl (cell_one_new _ _ _) (by simp [Value.oneCell']) (by unfold maxLen; omega) (by omega) (by simp; omega) ?_; intro v' w3 hown' hgrow _)
            have hg3 : G w1 w3 := (hg2.alloc _).grown hgrow (fun r e => (hown2.lt r e).1)
            rw [← HU.out] at hown'
            go_wp2_with fail
            go_roundw
            case rel => exact ⟨k + 1, by omega, by go_num, HD2.out, hg3, hown'⟩
            case measure => simp [intOf]; omega
        · obtain rfl : k = m := by omega
          obtain ⟨e1, e2⟩ := HO.out HD.out
          have E1 := Lib.hid e1
          have E2 := Lib.hid e2
          clear e1 e2
          go_wp2_with fail
          go_ret2
          exact ⟨_, by rw [E1.out]; rfl, by rw [E2.out]; exact Rd.of_own hown, g1.trans hg⟩
    · have hE2 : jcE s d (spB st n) L = 2 := by rw [jcE_step, if_pos hE, if_neg hst]
      have h5 : sdE s d st n L = 2 := by unfold sdE; rw [if_neg (by rw [hE2]; decide)]; exact hE2
      have h6 : spL a s d st n L = [] := by unfold spL; rw [if_neg (by rw [h5]; decide)]
      rw [h5, h6]
      have hst2 : st < 1 ∨ 1 ≤ st ∧ 68719476736 < st := by omega
      clear hE hE2 h5 h6 hst
      rcases hst2 with hc | ⟨hc, hc2⟩
      all_goals (
        go_enter Tryd.func21, Tryd.ntmps21
        go_wp2_with fail
        go_at_call 42
        refine (rjcheck_any s hs2 d n 0 1000 L _).mono ?_
        rintro e w1 ⟨rfl, g1⟩
        rw [HE.out]
        go_wp2_with fail
        go_ret2
        exact ⟨_, rfl, Rd.nil _, g1⟩)
  · have h4 : jcE s d (spB st n) L = jcE s d (decide (n < 0) || decide (1000 < n)) L := by rw [jcE_step, if_neg hE]
    have h5 : sdE s d st n L = jcE s d (decide (n < 0) || decide (1000 < n)) L := by unfold sdE; rw [if_neg (by rw [h4]; exact hE)]; exact h4
    have h6 : spL a s d st n L = [] := by unfold spL; rw [if_neg (by rw [h5]; exact hE)]
    rw [h5, h6]
    obtain ⟨q, hq⟩ : ∃ q, jcE s d (decide (n < 0) || decide (1000 < n)) L = q := ⟨_, rfl⟩
    have HQ := Lib.hid hq
    rw [hq] at hE ⊢
    have h0 : (q == 0) = false := by simpa using hE
    have h1 : (q != 0) = true := by simpa using hE
    clear hE hq h4 h5 h6
    go_enter Tryd.func21, Tryd.ntmps21
    go_wp2_with fail
    go_at_call 42
    refine (rjcheck_any s hs2 d n 0 1000 L _).mono ?_
    rintro e w1 ⟨rfl, g1⟩
    rw [HQ.out]
    go_wp2_with fail
    go_ret2
    exact ⟨_, rfl, Rd.nil _, (by repeat (first | exact G.refl _ | refine G.alloc ?_ _ | refine G.drewN ?_ _ | refine G.drew ?_ | refine G.trans ?_ (by assumption)))⟩
end Go.Proofs.YtahjiiigpndaeaaDoor
