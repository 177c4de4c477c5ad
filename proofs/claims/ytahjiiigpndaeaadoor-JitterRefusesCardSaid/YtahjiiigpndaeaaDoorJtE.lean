/-
  Jitters: Same, on both sides.
-/
import Derived.Test.YtahjiiigpndaeaaDoorJtD
set_option linter.unusedVariables false
set_option linter.unusedSimpArgs false
namespace Go.Proofs.YtahjiiigpndaeaaDoor
open Go.RowKit Go.Shelf

/-- how many of the first k values of f and g are alike -/
def cntE (f g : Nat → Int) : Nat → Nat
  | 0 => 0
  | k + 1 => if f k = g k then cntE f g k + 1 else cntE f g k
theorem cntE_le (f g : Nat → Int) (k : Nat) : cntE f g k ≤ k := by
  induction k with
  | zero => exact Nat.le_refl 0
  | succ k ih => unfold cntE; split <;> omega
def smE (s t : ByteArray) (d n L : Int) : Int := if nmB t = true then jnE s d n L else 15
def smV (a : Int) (s t : ByteArray) (d n L : Int) : Nat := if smE s t d n L = 0 then cntE (lstF a s d L) (lstF a t d L) n.toNat else 0
theorem jnE_other {s t : ByteArray} {d n L : Int} (h : jnE s d n L = 0) (ht : nmB t = true) : jnE t d n L = 0 := by
  obtain ⟨h1, h2, h3, h4⟩ := jcE_ok h
  unfold jnE jcE
  rw [if_pos ht, if_pos h2, if_pos ⟨h3, h4⟩]
set_option maxHeartbeats 2000000 in
theorem jsame_any (a : Int) (s t : ByteArray) (d n L : Int) (ha : u64 a) (n0 : -9223372036854775808 ≤ n) (n1 : n ≤ 9223372036854775807) (w : World) (ht : Tab w) :
    Calls Tryd.prog 18 #[.int .u64 a, .string s, .string t, .int .i64 d, .int .i64 n, .int .i64 L] w fun e w' => e = .returned (.tuple #[.int .i64 (smV a s t d n L), .int .i64 (smE s t d n L)]) ∧ G w w' := by
  have HT := Lib.hid ht
  clear ht
  cases hn : nmB t with
  | false =>
    have hE : smE s t d n L = 15 := by unfold smE; rw [if_neg (by rw [hn]; decide)]
    have hV : smV a s t d n L = 0 := by unfold smV; rw [if_neg (by rw [hE]; decide)]
    have HN := Lib.hid hn
    rw [hE, hV]
    clear hE hV hn
    go_enter Tryd.func18, Tryd.ntmps18
    go_wp2_with fail
    go_at_call 41
    refine (name_any t _).mono ?_
    rintro e w1 ⟨rfl, g1⟩
    rw [HN.out]
    go_wp2_with fail
    go_ret2
    exact ⟨rfl, g1⟩
  | true =>
    have hEE : smE s t d n L = jnE s d n L := if_pos hn
    have HN := Lib.hid hn
    by_cases hE : jnE s d n L = 0
    · obtain ⟨hsz, ⟨hd0, hd1⟩, ⟨hq0, hq1⟩, hL0, hL1⟩ := jnE_ok hE
      have hE2 := jnE_other hE hn
      have HM1 := Lib.hid (jnN_ok hE)
      have HM2 := Lib.hid (jnN_ok hE2)
      have HV : Hid (smV a s t d n L = cntE (lstF a s d L) (lstF a t d L) n.toNat) := Lib.hid (by unfold smV; rw [if_pos (hEE.trans hE)])
      have HE := Lib.hid hE
      have HE2 := Lib.hid hE2
      rw [hEE, hE, HV.out]
      obtain ⟨m, rfl⟩ : ∃ m : Nat, n = m := ⟨n.toNat, by omega⟩
      rw [Int.toNat_natCast] at *
      have HC : Hid (∀ k, cntE (lstF a s d L) (lstF a t d L) (k + 1) = if lstF a s d L k = lstF a t d L k then cntE (lstF a s d L) (lstF a t d L) k + 1 else cntE (lstF a s d L) (lstF a t d L) k) := Lib.hid (fun k => rfl)
      have HCL := Lib.hid (cntE_le (lstF a s d L) (lstF a t d L))
      clear hE hE2 hEE hn HV
      go_enter Tryd.func18, Tryd.ntmps18
      go_wp2_with fail
      go_at_call 41
      refine (name_any t _).mono ?_
      rintro e w1 ⟨rfl, g1⟩
      rw [HN.out]
      go_wp2_with fail
      go_at_call 15
      refine (jlist_any a s d m L ha n0 n1 _ (HT.out.g g1)).mono ?_
      rintro e w2 ⟨v2, rfl, r2, g2⟩
      rw [HE.out]
      rw [HM1.out] at r2
      go_wp2_with fail
      go_at_call 15
      refine (jlist_any a t d m L ha n0 n1 _ (HT.out.g (g1.trans g2))).mono ?_
      rintro e w3 ⟨v3, rfl, r3, g3⟩
      rw [HE2.out]
      rw [HM2.out] at r3
      replace r2 := r2.g g3
      have gW := (g1.trans g2).trans g3
      clear g1 g2 g3
      obtain ⟨A1, c1, rfl, hc1, hm1, hr1⟩ := r2
      obtain ⟨A2, c2, rfl, hc2, hm2, hr2⟩ := r3
      simp only [vI_len, jL_len] at hc1 hr1 hc2 hr2 ⊢
      have H1 : Hid (∀ k, k < m → ∃ b o, A1 = some ⟨b, o, none⟩ ∧ w3.cell? ⟨b, o + k, none⟩ = some (.int .i64 (lstF a s d L k))) := Lib.hid (fun k hk => by
        obtain ⟨b, o, e, h⟩ := hr1 (by omega)
        exact ⟨b, o, e, h k _ (jL_get a s d L hk)⟩)
      have H2 : Hid (∀ k, k < m → ∃ b o, A2 = some ⟨b, o, none⟩ ∧ w3.cell? ⟨b, o + k, none⟩ = some (.int .i64 (lstF a t d L k))) := Lib.hid (fun k hk => by
        obtain ⟨b, o, e, h⟩ := hr2 (by omega)
        exact ⟨b, o, e, h k _ (jL_get a t d L hk)⟩)
      clear hr1 hr2
      go_wp2_with fail
      go_loopw [17, 51] (fun cv kv wr => ∃ k : Nat, k ≤ m ∧ kv = .int .i64 k ∧ cv = .int .i64 (cntE (lstF a s d L) (lstF a t d L) k) ∧ G w3 wr) (fun _ kv _ => m - (intOf kv).toNat)
      case atStart => exact ⟨0, by omega, rfl, rfl, G.refl _⟩
      case round =>
        obtain ⟨k, hk, rfl, rfl, hg⟩ := hrel
        by_cases hlt : k < m
        · have hkm : (k : Int) < m := by omega
          obtain ⟨b, o, rfl, hc⟩ := H1.out k hlt
          obtain ⟨b2, o2, rfl, hc2⟩ := H2.out k hlt
          have d0 := hg.cell (World.block_lt_of_cell? w3 _ hc) hc
          have d1 := hg.cell (World.block_lt_of_cell? w3 _ hc2) hc2
          have HS := Lib.hid (HC.out k)
          have hcl := HCL.out k
          clear hc hc2
          generalize cntE (lstF a s d L) (lstF a t d L) k = q at *
          generalize lstF a s d L k = x at *
          generalize lstF a t d L k = y at *
          by_cases hxy : x = y
          · have HS2 := Lib.hid (HS.out.trans (if_pos hxy))
            subst hxy
            go_wp2_with fail
            go_quiet (fail)
            go_wp2_with fail
            go_roundw
            case rel => exact ⟨k + 1, by omega, by go_num, by rw [HS2.out]; go_num, (by repeat (first | exact G.refl _ | refine G.alloc ?_ _ | refine G.drewN ?_ _ | refine G.drew ?_ | refine G.trans ?_ (by assumption)))⟩
            case measure => simp [intOf]; omega
          · have HS2 := Lib.hid (HS.out.trans (if_neg hxy))
            have hb : (x == y) = false := by simpa using hxy
            go_wp2_with fail
            go_quiet (fail)
            go_wp2_with fail
            go_roundw
            case rel => exact ⟨k + 1, by omega, by go_num, by rw [HS2.out], (by repeat (first | exact G.refl _ | refine G.alloc ?_ _ | refine G.drewN ?_ _ | refine G.drew ?_ | refine G.trans ?_ (by assumption)))⟩
            case measure => simp [intOf]; omega
        · obtain rfl : k = m := by omega
          go_wp2_with fail
          go_ret2
          exact ⟨rfl, gW.trans hg⟩
    · have hV : smV a s t d n L = 0 := by unfold smV; rw [if_neg (by rw [hEE]; exact hE)]
      rw [hEE, hV]
      obtain ⟨q, hq⟩ : ∃ q, jnE s d n L = q := ⟨_, rfl⟩
      have HQ := Lib.hid hq
      rw [hq] at hE ⊢
      have h0 : (q == 0) = false := by simpa using hE
      have h1 : (q != 0) = true := by simpa using hE
      clear hE hq hEE hV hn
      go_enter Tryd.func18, Tryd.ntmps18
      go_wp2_with fail
      go_at_call 41
      refine (name_any t _).mono ?_
      rintro e w1 ⟨rfl, g1⟩
      rw [HN.out]
      go_wp2_with fail
      go_at_call 15
      refine (jlist_any a s d n L ha n0 n1 _ (HT.out.g g1)).mono ?_
      rintro e w2 ⟨v2, rfl, r2, g2⟩
      rw [HQ.out]
      clear r2
      go_wp2_with fail
      go_ret2
      exact ⟨rfl, g1.trans g2⟩
set_option maxHeartbeats 2000000 in
theorem rjsame_any (a : Int) (s t : ByteArray) (d n L : Int) (ha : u64 a) (hs2 : s.size < 9223372036854775807) (ht2 : t.size < 9223372036854775807) (n0 : -9223372036854775808 ≤ n) (n1 : n ≤ 9223372036854775807) (w : World) :
    Calls Tryd.prog 23 #[.int .u64 a, .string s, .string t, .int .i64 d, .int .i64 n, .int .i64 L] w fun e w' => e = .returned (.tuple #[.int .i64 (smV a s t d n L), .int .i64 (smE s t d n L)]) ∧ G w w' := by
  cases hn : nmB t with
  | false =>
    have hE : smE s t d n L = 15 := by unfold smE; rw [if_neg (by rw [hn]; decide)]
    have hV : smV a s t d n L = 0 := by unfold smV; rw [if_neg (by rw [hE]; decide)]
    have HN := Lib.hid hn
    rw [hE, hV]
    clear hE hV hn
    go_enter Tryd.func23, Tryd.ntmps23
    go_wp2_with fail
    go_at_call 42
    refine (rjcheck_any s hs2 d n 0 21 L _).mono ?_
    rintro e w1 ⟨rfl, g1⟩
    go_wp2_with fail
    go_at_call 44
    refine (rname_any t ht2 _).mono ?_
    rintro e w2 ⟨rfl, g2⟩
    rw [HN.out]
    go_wp2_with fail
    go_ret2
    exact ⟨rfl, g1.trans g2⟩
  | true =>
    have hEE : smE s t d n L = jnE s d n L := if_pos hn
    have htz := nmB_size hn
    have HN := Lib.hid hn
    by_cases hE : jnE s d n L = 0
    · obtain ⟨hsz, ⟨hd0, hd1⟩, ⟨hq0, hq1⟩, hL0, hL1⟩ := jnE_ok hE
      have HV : Hid (smV a s t d n L = cntE (lstF a s d L) (lstF a t d L) n.toNat) := Lib.hid (by unfold smV; rw [if_pos (hEE.trans hE)])
      have HE : Hid (jcE s d (decide (n < 0) || decide (21 < n)) L = 0) := Lib.hid hE
      rw [hEE, hE, HV.out]
      obtain ⟨m, rfl⟩ : ∃ m : Nat, n = m := ⟨n.toNat, by omega⟩
      rw [Int.toNat_natCast] at *
      have HC : Hid (∀ k, cntE (lstF a s d L) (lstF a t d L) (k + 1) = if lstF a s d L k = lstF a t d L k then cntE (lstF a s d L) (lstF a t d L) k + 1 else cntE (lstF a s d L) (lstF a t d L) k) := Lib.hid (fun k => rfl)
      have HCL := Lib.hid (cntE_le (lstF a s d L) (lstF a t d L))
      clear hE hEE hn HV
      go_enter Tryd.func23, Tryd.ntmps23
      go_wp2_with fail
      go_at_call 42
      refine (rjcheck_any s hs2 d m 0 21 L _).mono ?_
      rintro e w1 ⟨rfl, g1⟩
      rw [HE.out]
      go_wp2_with fail
      go_at_call 44
      refine (rname_any t ht2 _).mono ?_
      rintro e w2 ⟨rfl, g2⟩
      rw [HN.out]
      have gW := g1.trans g2
      clear g1 g2
      go_wp2_with fail
      go_loopw [15, 16] (fun cv kv wr => ∃ k : Nat, k ≤ m ∧ kv = .int .i64 ((k : Int) + 1) ∧ cv = .int .i64 (cntE (lstF a s d L) (lstF a t d L) k) ∧ G w2 wr) (fun _ kv _ => m + 1 - (intOf kv).toNat)
      case atStart => exact ⟨0, by omega, rfl, rfl, G.refl _⟩
      case round =>
        obtain ⟨k, hk, rfl, rfl, hg⟩ := hrel
        by_cases hlt : k < m
        · have hkm : (k : Int) + 1 ≤ m := by omega
          have HS := Lib.hid (HC.out k)
          have hcl := HCL.out k
          have HX : Hid (lstF a s d L k = jw a s d ((k : Int) + 1) L) := Lib.hid rfl
          have HY : Hid (lstF a t d L k = jw a t d ((k : Int) + 1) L) := Lib.hid rfl
          rw [HX.out, HY.out] at HS
          clear HX HY
          generalize cntE (lstF a s d L) (lstF a t d L) k = q at *
          go_wp2_with fail
          go_at_call 43
          refine (rjw_any a s d ((k : Int) + 1) L ha hsz hd0 hd1 (by omega) (by omega) hL0 hL1 _).mono ?_
          rintro e w3 ⟨rfl, g3⟩
          go_wp2_with fail
          go_at_call 43
          refine (rjw_any a t d ((k : Int) + 1) L ha htz hd0 hd1 (by omega) (by omega) hL0 hL1 _).mono ?_
          rintro e w4 ⟨rfl, g4⟩
          have gA := hg.trans (g3.trans g4)
          generalize jw a s d ((k : Int) + 1) L = x at *
          generalize jw a t d ((k : Int) + 1) L = y at *
          by_cases hxy : x = y
          · have HS2 := Lib.hid (HS.out.trans (if_pos hxy))
            subst hxy
            go_wp2_with fail
            go_roundw
            case rel => exact ⟨k + 1, by omega, by go_num, by rw [HS2.out]; go_num, gA⟩
            case measure => simp [intOf]; omega
          · have HS2 := Lib.hid (HS.out.trans (if_neg hxy))
            have hb : (x == y) = false := by simpa using hxy
            go_wp2_with fail
            go_roundw
            case rel => exact ⟨k + 1, by omega, by go_num, by rw [HS2.out], gA⟩
            case measure => simp [intOf]; omega
        · obtain rfl : k = m := by omega
          have hkm : decide ((k : Int) + 1 ≤ k) = false := by simp; omega
          go_wp2_with fail
          go_ret2
          exact ⟨rfl, gW.trans hg⟩
    · have hV : smV a s t d n L = 0 := by unfold smV; rw [if_neg (by rw [hEE]; exact hE)]
      rw [hEE, hV]
      obtain ⟨q, hq⟩ : ∃ q, jnE s d n L = q := ⟨_, rfl⟩
      have HQ : Hid (jcE s d (decide (n < 0) || decide (21 < n)) L = q) := Lib.hid hq
      rw [hq] at hE ⊢
      have h0 : (q == 0) = false := by simpa using hE
      have h1 : (q != 0) = true := by simpa using hE
      clear hE hq hEE hV hn
      go_enter Tryd.func23, Tryd.ntmps23
      go_wp2_with fail
      go_at_call 42
      refine (rjcheck_any s hs2 d n 0 21 L _).mono ?_
      rintro e w1 ⟨rfl, g1⟩
      rw [HQ.out]
      go_wp2_with fail
      go_at_call 44
      refine (rname_any t ht2 _).mono ?_
      rintro e w2 ⟨rfl, g2⟩
      rw [HN.out]
      go_wp2_with fail
      go_ret2
      exact ⟨rfl, g1.trans g2⟩
end Go.Proofs.YtahjiiigpndaeaaDoor
