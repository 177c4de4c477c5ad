/-
  The document's side of jitters: List, Total, Least.
-/
import Derived.Test.YtahjiiigpndaeaaDoorJtC
set_option linter.unusedVariables false
set_option linter.unusedSimpArgs false
namespace Go.Proofs.YtahjiiigpndaeaaDoor
open Go.RowKit Go.Shelf

theorem jL_succ (a : Int) (s : ByteArray) (d L : Int) (k : Nat) : vI .i64 (jL a s d L (k + 1)) = vI .i64 (jL a s d L k) ++ [.int .i64 (jw a s d ((k : Int) + 1) L)] := by
  simp [vI, jL, List.range_succ]
theorem jL_get (a : Int) (s : ByteArray) (d L : Int) {m k : Nat} (h : k < m) : (vI .i64 (jL a s d L m))[k]? = some (.int .i64 (lstF a s d L k)) := by
  simp [vI, jL, lstF, h]
set_option maxHeartbeats 2000000 in
theorem rjlist_any (a : Int) (s : ByteArray) (d n L : Int) (ha : u64 a) (hs2 : s.size < 9223372036854775807) (n0 : -9223372036854775808 ≤ n) (n1 : n ≤ 9223372036854775807) (w : World) :
    Calls Tryd.prog 28 #[.int .u64 a, .string s, .int .i64 d, .int .i64 n, .int .i64 L] w fun e w' => ∃ v, e = .returned (.tuple #[v, .int .i64 (jnE s d n L)]) ∧ Rd w' v (vI .i64 (jL a s d L (jnN s d n L))) ∧ G w w' := by
  by_cases hE : jnE s d n L = 0
  · obtain ⟨hsz, ⟨hd0, hd1⟩, ⟨hq0, hq1⟩, hL0, hL1⟩ := jnE_ok hE
    have hN := jnN_ok hE
    have HE : Hid (jcE s d (decide (n < 0) || decide (21 < n)) L = 0) := Lib.hid hE
    rw [hE, hN]
    obtain ⟨m, rfl⟩ : ∃ m : Nat, n = m := ⟨n.toNat, by omega⟩
    rw [Int.toNat_natCast]
    clear hE hN
    obtain ⟨i0, hi, hz0, hz1, hz2⟩ := info_parts info_i64
    go_enter Tryd.func28, Tryd.ntmps28
    go_wp2_with fail
    go_at_call 42
    refine (rjcheck_any s hs2 d m 0 21 L _).mono ?_
    rintro e w1 ⟨rfl, g1⟩
    rw [HE.out]
    go_wp2_with fail
    go_loopw [13, 14] (fun ov kv wr => ∃ k : Nat, k ≤ m ∧ kv = .int .i64 ((k : Int) + 1) ∧ G w1 wr ∧ wr.ownsRow w1.heap.size 2 1 ov k (vI .i64 (jL a s d L k))) (fun _ kv _ => m + 1 - (intOf kv).toNat)
    case atStart => exact ⟨0, by omega, rfl, G.refl _, World.ownsRow_nil _ _ _ _⟩
    case round =>
      obtain ⟨k, hk, rfl, hg, hown⟩ := hrel
      by_cases hlt : k < m
      · have hkm : (k : Int) + 1 ≤ m := by omega
        have HU := Lib.hid (jL_succ a s d L k)
        go_wp2_with fail
        go_at_call 43
        refine (rjw_any a s d ((k : Int) + 1) L ha hsz hd0 hd1 (by omega) (by omega) hL0 hL1 _).mono ?_
        rintro e w2 ⟨rfl, g2⟩
        generalize jw a s d ((k : Int) + 1) L = x at *
        have hg2 := hg.trans g2
        have hsz2 := hg2.size
        have hown2 := ownsRow_g hown g2
        go_wp2_with (at_builtin; refine wpList_append_own _ rfl _ _ 27 rfl w1.heap.size 2 i0 (.int .i64 0) 1 8 Tryd.underlying27 hi hz0 hz1 hz2 rfl (by decide) _ _ _ rfl (hown2.alloc _) ⟨w2.heap.size, 0, none⟩ 1 1 [.int .i64 x] rfl rfl (cell_one_new _ _ _) (by simp [Value.oneCell']) (by unfold maxLen; omega) (by omega) (by simp; omega) ?_; intro v' w3 hown' hgrow _)
        have hg3 : G w1 w3 := (hg2.alloc _).grown hgrow (fun r e => (hown2.lt r e).1)
        rw [← HU.out] at hown'
        go_wp2_with fail
        go_roundw
        case rel => exact ⟨k + 1, by omega, by go_num, hg3, hown'⟩
        case measure => simp [intOf]; omega
      · obtain rfl : k = m := by omega
        have hkm : decide ((k : Int) + 1 ≤ k) = false := by simp; omega
        go_wp2_with fail
        go_ret2
        exact ⟨_, rfl, Rd.of_own hown, g1.trans hg⟩
  · have hN := jnN_no hE
    obtain ⟨q, hq⟩ : ∃ q, jnE s d n L = q := ⟨_, rfl⟩
    have HE : Hid (jcE s d (decide (n < 0) || decide (21 < n)) L = q) := Lib.hid hq
    rw [hq] at hE ⊢
    rw [hN]
    have h0 : (q == 0) = false := by simpa using hE
    have h1 : (q != 0) = true := by simpa using hE
    clear hE hq hN
    go_enter Tryd.func28, Tryd.ntmps28
    go_wp2_with fail
    go_at_call 42
    refine (rjcheck_any s hs2 d n 0 21 L _).mono ?_
    rintro e w1 ⟨rfl, g1⟩
    rw [HE.out]
    go_wp2_with fail
    go_ret2
    exact ⟨_, rfl, Rd.nil _, (by repeat (first | exact G.refl _ | refine G.alloc ?_ _ | refine G.drewN ?_ _ | refine G.drew ?_ | refine G.trans ?_ (by assumption)))⟩
theorem sumJ_range (a : Int) (s : ByteArray) (d L : Int) (k : Nat) : sumJ a s d L (List.range (k + 1)) = sumJ a s d L (List.range k) + lstF a s d L k := by
  rw [List.range_succ, sumJ_snoc]; rfl
set_option maxHeartbeats 2000000 in
theorem rjtotal_any (a : Int) (s : ByteArray) (d n L : Int) (ha : u64 a) (hs2 : s.size < 9223372036854775807) (n0 : -9223372036854775808 ≤ n) (n1 : n ≤ 9223372036854775807) (w : World) :
    Calls Tryd.prog 31 #[.int .u64 a, .string s, .int .i64 d, .int .i64 n, .int .i64 L] w fun e w' => e = .returned (.tuple #[.int .i64 (sumJ a s d L (List.range (jnN s d n L))), .int .i64 (jnE s d n L)]) ∧ G w w' := by
  have hm := jnN_bd s d n L
  have HL : Hid (∀ k, k < jnN s d n L → 0 ≤ L ∧ L ≤ 68719476736) := Lib.hid (fun k h => jn_pos h)
  obtain ⟨m, hmm⟩ : ∃ m, jnN s d n L = m := ⟨_, rfl⟩
  have HQ := Lib.hid hmm
  rw [hmm] at hm HL ⊢
  clear hmm
  go_enter Tryd.func31, Tryd.ntmps31
  go_wp2_with fail
  go_at_call 28
  refine (rjlist_any a s d n L ha hs2 n0 n1 _).mono ?_
  rintro e w1 ⟨v1, rfl, r1, g1⟩
  obtain ⟨A1, c1, rfl, hc1, hm1, hr1⟩ := r1
  rw [HQ.out] at hc1 hr1 ⊢
  rw [vI_len, jL_len] at hc1 hr1 ⊢
  have H1 : Hid (∀ k, k < m → ∃ b o, A1 = some ⟨b, o, none⟩ ∧ w1.cell? ⟨b, o + k, none⟩ = some (.int .i64 (lstF a s d L k))) := Lib.hid (fun k hk => by
    obtain ⟨b, o, e, h⟩ := hr1 (by omega)
    exact ⟨b, o, e, h k _ (jL_get a s d L hk)⟩)
  clear hr1
  go_wp2_with fail
  go_loopw [14, 15] (fun ov kv wr => ∃ k : Nat, k ≤ m ∧ kv = .int .i64 k ∧ ov = .int .i64 (sumJ a s d L (List.range k)) ∧ G w1 wr) (fun _ kv _ => m - (intOf kv).toNat)
  case atStart => exact ⟨0, by omega, rfl, rfl, G.refl _⟩
  case round =>
    obtain ⟨k, hk, rfl, rfl, hg⟩ := hrel
    by_cases hlt : k < m
    · have hkm : (k : Int) < m := by omega
      obtain ⟨b, o, rfl, hc⟩ := H1.out k hlt
      have d0 := hg.cell (World.block_lt_of_cell? w1 _ hc) hc
      obtain ⟨hL0, hL1⟩ := HL.out k hlt
      have hb1 := sumJ_bd a s d L hL0 hL1 (List.range k)
      have hb2 := jw_bd2 a s d ((k : Int) + 1) L hL0 hL1
      have HS := Lib.hid (sumJ_range a s d L k)
      rw [List.length_range] at hb1
      have HF : Hid (lstF a s d L k = jw a s d ((k : Int) + 1) L) := Lib.hid rfl
      rw [HF.out] at d0 HS
      clear hc HF
      generalize jw a s d ((k : Int) + 1) L = y at *
      generalize sumJ a s d L (List.range k) = S at *
      have hw : IntKind.i64.wrap (S + y) = S + y := by rw [IntKind.wrap_i64]; omega
      go_wp2_with fail
      go_roundw
      case rel => exact ⟨k + 1, by omega, by go_num, by rw [HS.out], hg⟩
      case measure => simp [intOf]; omega
    · obtain rfl : k = m := by omega
      go_wp2_with fail
      go_ret2
      exact ⟨rfl, g1.trans hg⟩
/-- the index of the first of the smallest -/
def bst (f : Nat → Int) (i : Nat) : Nat := ((ltF f (List.range i)).1 - 1).toNat
theorem bst_all (f : Nat → Int) (i : Nat) : (0 < i → (ltF f (List.range i)).1 = (bst f i : Int) + 1 ∧ (ltF f (List.range i)).2 = f (bst f i) ∧ bst f i < i) := by
  induction i with
  | zero => intro h; omega
  | succ i ih =>
    intro _
    have hs := ltF_snoc f (List.range i) i
    rw [← List.range_succ] at hs
    by_cases h : (ltF f (List.range i)).1 = 0 ∨ f i < (ltF f (List.range i)).2
    · rw [if_pos h] at hs
      have hb : bst f (i + 1) = i := by unfold bst; rw [hs]; simp
      rw [hb, hs]
      exact ⟨rfl, rfl, by omega⟩
    · rw [if_neg h] at hs
      have hi : 0 < i := by
        rcases Nat.eq_zero_or_pos i with rfl | hp
        · exact absurd (.inl ((ltF_fst f 0).2 rfl)) h
        · exact hp
      obtain ⟨h1, h2, h3⟩ := ih hi
      have hb : bst f (i + 1) = bst f i := by unfold bst; rw [hs]
      rw [hb, hs]
      exact ⟨h1, h2, by omega⟩
theorem bst_step (f : Nat → Int) (i : Nat) : bst f (i + 1) = if f i < f (bst f i) then i else bst f i := by
  have hs := ltF_snoc f (List.range i) i
  rw [← List.range_succ] at hs
  rcases Nat.eq_zero_or_pos i with rfl | hp
  · have hz : bst f 0 = 0 := rfl
    rw [hz, if_neg (by omega)]
    unfold bst
    rw [hs]
    rw [if_pos (.inl ((ltF_fst f 0).2 rfl))]
    rfl
  · obtain ⟨h1, h2, h3⟩ := bst_all f i hp
    have hne : ¬ (ltF f (List.range i)).1 = 0 := by rw [h1]; omega
    rw [← h2]
    by_cases hlt : f i < (ltF f (List.range i)).2
    · rw [if_pos hlt]
      rw [if_pos (.inr hlt)] at hs
      unfold bst
      rw [hs]
      simp
    · rw [if_neg hlt]
      rw [if_neg (not_or.2 ⟨hne, hlt⟩)] at hs
      unfold bst
      rw [hs]
theorem bst_le (f : Nat → Int) (i m : Nat) (hm : 0 < m) (h : i ≤ m) : bst f i < m := by
  rcases Nat.eq_zero_or_pos i with rfl | hp
  · exact hm
  · have := (bst_all f i hp).2.2
    omega
set_option maxHeartbeats 2000000 in
theorem rjleast_any (a : Int) (s : ByteArray) (d n L : Int) (ha : u64 a) (hs2 : s.size < 9223372036854775807) (n0 : -9223372036854775808 ≤ n) (n1 : n ≤ 9223372036854775807) (w : World) :
    Calls Tryd.prog 30 #[.int .u64 a, .string s, .int .i64 d, .int .i64 n, .int .i64 L] w fun e w' => e = .returned (.tuple #[.int .i64 (ltF (lstF a s d L) (List.range (jnN s d n L))).1, .int .i64 (ltF (lstF a s d L) (List.range (jnN s d n L))).2, .int .i64 (ltE s d n L)]) ∧ G w w' := by
  by_cases hE : jnE s d n L = 0
  · obtain ⟨hsz, ⟨hd0, hd1⟩, ⟨hq0, hq1⟩, hL0, hL1⟩ := jnE_ok hE
    by_cases hn : n = 0
    · have h5 : ltE s d n L = 5 := if_pos ⟨hE, hn⟩
      have hN : jnN s d n L = 0 := by rw [jnN_ok hE, hn]; rfl
      have HE := Lib.hid hE
      rw [h5, hN]
      rw [show ltF (lstF a s d L) (List.range 0) = (0, 0) from rfl]
      have HN := Lib.hid hN
      subst hn
      clear hE h5 hN
      go_enter Tryd.func30, Tryd.ntmps30
      go_wp2_with fail
      go_at_call 28
      refine (rjlist_any a s d 0 L ha hs2 n0 n1 _).mono ?_
      rintro e w1 ⟨v1, rfl, r1, g1⟩
      rw [HE.out]
      clear r1
      go_wp2_with fail
      go_ret3
      exact ⟨rfl, g1⟩
    · have h5 : ltE s d n L = 0 := by unfold ltE; rw [if_neg (fun h => hn h.2)]; exact hE
      have HN := Lib.hid (jnN_ok hE)
      have HE := Lib.hid hE
      rw [h5, HN.out]
      obtain ⟨m, rfl⟩ : ∃ m : Nat, n = m := ⟨n.toNat, by omega⟩
      rw [Int.toNat_natCast] at *
      have hm0 : 0 < m := by omega
      have hnz : ((m : Int) == 0) = false := by simp; omega
      have HB := Lib.hid (bst_all (lstF a s d L) m hm0)
      obtain ⟨R1, hR1⟩ : ∃ x, (ltF (lstF a s d L) (List.range m)).1 = x := ⟨_, rfl⟩
      obtain ⟨R2, hR2⟩ : ∃ x, (ltF (lstF a s d L) (List.range m)).2 = x := ⟨_, rfl⟩
      rw [hR1, hR2] at HB ⊢
      clear hE h5 hn hR1 hR2
      go_enter Tryd.func30, Tryd.ntmps30
      go_wp2_with fail
      go_at_call 28
      refine (rjlist_any a s d m L ha hs2 n0 n1 _).mono ?_
      rintro e w1 ⟨v1, rfl, r1, g1⟩
      rw [HE.out]
      rw [HN.out] at r1
      obtain ⟨A1, c1, rfl, hc1, hm1, hr1⟩ := r1
      rw [vI_len, jL_len] at *
      have H1 : Hid (∀ k, k < m → ∃ b o, A1 = some ⟨b, o, none⟩ ∧ w1.cell? ⟨b, o + k, none⟩ = some (.int .i64 (lstF a s d L k))) := Lib.hid (fun k hk => by
        obtain ⟨b, o, e, h⟩ := hr1 (by omega)
        exact ⟨b, o, e, h k _ (jL_get a s d L hk)⟩)
      clear hr1
      go_wp2_with fail
      go_loopw [15, 16] (fun bv kv wr => ∃ k : Nat, k ≤ m ∧ kv = .int .i64 k ∧ bv = .int .i64 (bst (lstF a s d L) k) ∧ G w1 wr) (fun _ kv _ => m - (intOf kv).toNat)
      case atStart => exact ⟨0, by omega, rfl, rfl, G.refl _⟩
      case round =>
        obtain ⟨k, hk, rfl, rfl, hg⟩ := hrel
        have hbm := bst_le (lstF a s d L) k m hm0 hk
        have HS := Lib.hid (bst_step (lstF a s d L) k)
        by_cases hlt : k < m
        · have hkm : (k : Int) < m := by omega
          obtain ⟨b, o, rfl, hc⟩ := H1.out k hlt
          obtain ⟨b2, o2, he, hc2⟩ := H1.out _ hbm
          cases he
          have d0 := hg.cell (World.block_lt_of_cell? w1 _ hc) hc
          have d1 := hg.cell (World.block_lt_of_cell? w1 _ hc2) hc2
          clear hc hc2 HB
          generalize bst (lstF a s d L) k = q at *
          have hqm : (q : Int) < m := by omega
          generalize lstF a s d L k = x at *
          generalize lstF a s d L q = y at *
          by_cases hxy : x < y
          · have HS2 : Hid (bst (lstF a s d L) (k + 1) = k) := Lib.hid (by rw [HS.out, if_pos hxy])
            go_wp2_with fail
            go_quiet (fail)
            go_wp2_with fail
            go_roundw
            case rel => exact ⟨k + 1, by omega, by go_num, by rw [HS2.out], (by repeat (first | exact G.refl _ | refine G.alloc ?_ _ | refine G.drewN ?_ _ | refine G.drew ?_ | refine G.trans ?_ (by assumption)))⟩
            case measure => simp [intOf]; omega
          · have HS2 : Hid (bst (lstF a s d L) (k + 1) = q) := Lib.hid (by rw [HS.out, if_neg hxy])
            go_wp2_with fail
            go_quiet (fail)
            go_wp2_with fail
            go_roundw
            case rel => exact ⟨k + 1, by omega, by go_num, by rw [HS2.out], (by repeat (first | exact G.refl _ | refine G.alloc ?_ _ | refine G.drewN ?_ _ | refine G.drew ?_ | refine G.trans ?_ (by assumption)))⟩
            case measure => simp [intOf]; omega
        · obtain rfl : k = m := by omega
          obtain ⟨b2, o2, rfl, hc2⟩ := H1.out _ hbm
          have d1 := hg.cell (World.block_lt_of_cell? w1 _ hc2) hc2
          obtain ⟨h1, h2, -⟩ := HB.out
          rw [← h2] at d1
          have H1r := Lib.hid h1
          clear h1 h2 HB HS hc2
          generalize bst (lstF a s d L) k = q at *
          have hqm : (q : Int) < k := by omega
          go_wp2_with fail
          go_quiet (fail)
          go_wp2_with fail
          go_ret3
          exact ⟨by rw [H1r.out]; rfl, g1.trans (hg.drewN _)⟩
  · have h5 : ltE s d n L = jnE s d n L := by unfold ltE; rw [if_neg (fun h => hE h.1)]
    have hN := jnN_no hE
    rw [h5, hN]
    rw [show ltF (lstF a s d L) (List.range 0) = (0, 0) from rfl]
    obtain ⟨q, hq⟩ : ∃ q, jnE s d n L = q := ⟨_, rfl⟩
    have HQ := Lib.hid hq
    rw [hq] at hE ⊢
    have h0 : (q == 0) = false := by simpa using hE
    have h1 : (q != 0) = true := by simpa using hE
    clear hE hq hN h5
    go_enter Tryd.func30, Tryd.ntmps30
    go_wp2_with fail
    go_at_call 28
    refine (rjlist_any a s d n L ha hs2 n0 n1 _).mono ?_
    rintro e w1 ⟨v1, rfl, r1, g1⟩
    rw [HQ.out]
    clear r1
    go_wp2_with fail
    go_ret3
    exact ⟨rfl, g1⟩
end Go.Proofs.YtahjiiigpndaeaaDoor
