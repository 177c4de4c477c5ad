/-
  The document's Splays, Splay, Buckets.
-/
import Derived.Test.YtodijghpeikmoaaDoorHsS
set_option linter.unusedVariables false
set_option linter.unusedSimpArgs false
namespace Go.Proofs.YtodijghpeikmoaaDoor
open Go.RowKit Go.Shelf

theorem plL_take (a n : Int) (l : List ByteArray) {k : Nat} (hk : k < l.length) : plL a n (l.take (k + 1)) = plL a n (l.take k) ++ [placeI a n (l[k]?.getD ByteArray.empty)] := by
  rw [take_snoc l hk]; simp [plL]
theorem plL_len (a n : Int) (l : List ByteArray) : (plL a n l).length = l.length := by simp [plL]
theorem place_zero (a : Int) (s : ByteArray) : placeI a 1 s = 0 := place_one a s
set_option maxHeartbeats 2000000 in
theorem rsplays_any (l : List ByteArray) (v : Value) (a n : Int) (ha : u64 a) (n0 : -9223372036854775808 ≤ n) (n1 : n ≤ 9223372036854775807) (w : World) (hv : Rd w v (vS l)) (hok : okS l) :
    Calls Tryd.prog 17 #[v, .int .u64 a, .int .i64 n] w fun e w' => ∃ v', e = .returned (.tuple #[v', .int .i64 (spE l n)]) ∧ Rd w' v' (vI .i64 (spL a n l)) ∧ G w w' := by
  have HV := Lib.hid hv
  obtain ⟨A, c, rfl, hcc, hcm, hr⟩ := hv
  rw [vS_len] at *
  have HR : Hid (∀ k, k < l.length → ∃ b o, A = some ⟨b, o, none⟩ ∧ w.cell? ⟨b, o + k, none⟩ = some (.string (l[k]?.getD ByteArray.empty))) := Lib.hid (fun k hk => by
      obtain ⟨b, o, e, h⟩ := hr (by omega)
      exact ⟨b, o, e, h k _ (vS_get hk)⟩)
  have HO := Lib.hid hok
  clear hr hok
  by_cases hc : chkH l = 0
  · have hll := chkH_ok hc
    by_cases hn : 0 ≤ n ∧ n ≤ 68719476736
    · have HE : Hid (spE l n = 0) := Lib.hid (by unfold spE; rw [if_pos hc, if_pos hn])
      have HL : Hid (spL a n l = plL a (max n 1) l) := Lib.hid (by unfold spL; rw [if_pos HE.out])
      have HC := Lib.hid hc
      obtain ⟨hna, hnb⟩ := hn
      rw [HE.out, HL.out]
      clear HE HL hc
      obtain ⟨i0, hi, hz0, hz1, hz2⟩ := info_parts info_i64
      rcases Int.lt_or_le 0 n with hpos | hneg
      · have hmx : max n 1 = n := by omega
        rw [hmx]
        clear hmx
        have hwn : IntKind.u64.wrap n = n := by rw [IntKind.wrap_u64]; omega
        have hnz : (n == 0) = false := by simp; omega
        go_enter Tryd.func17, Tryd.ntmps17
        go_wp2_with fail
        go_at_call 32
        refine (rnames_any l _ _ HV.out HO.out).mono ?_
        rintro e w1 ⟨rfl, g1⟩
        rw [HC.out]
        go_wp2_with fail
        go_loopw [9, 10] (fun ov kv wr => ∃ k : Nat, k ≤ l.length ∧ kv = .int .i64 k ∧ G w1 wr ∧ wr.ownsRow w1.heap.size 2 1 ov k (vI .i64 (plL a n (l.take k)))) (fun _ kv _ => l.length - (intOf kv).toNat)
        case atStart => exact ⟨0, by omega, rfl, G.refl _, World.ownsRow_nil _ _ _ _⟩
        case round =>
          obtain ⟨k, hk, rfl, hg, hown⟩ := hrel
          by_cases hlt : k < l.length
          · have hkl : (k : Int) < l.length := by omega
            obtain ⟨b, o, rfl, hcell⟩ := HR.out k hlt
            have d0 := hg.cell (World.block_lt_of_cell? w1 _ (g1.cell (World.block_lt_of_cell? w _ hcell) hcell)) (g1.cell (World.block_lt_of_cell? w _ hcell) hcell)
            have HU := Lib.hid (plL_take a n l hlt)
            have HZ := Lib.hid (HO.out k)
            clear hcell
            generalize l[k]?.getD ByteArray.empty = s at *
            go_wp2_with fail
            go_at_call 33
            refine (place_any a n s hpos (by omega) HZ.out _).mono ?_
            rintro e w2 ⟨rfl, g2⟩
            have hb := placeI_bd a n s hpos
            generalize placeI a n s = x at *
            have hg2 := hg.trans g2
            have hsz := hg2.size
            have hown2 := ownsRow_g hown g2
            have hwx : IntKind.i64.wrap x = x := by rw [IntKind.wrap_i64]; omega
            go_wp2_with (at_builtin; refine wpList_append_own _ rfl _ _ 28 rfl w1.heap.size 2 i0 (.int .i64 0) 1 8 Tryd.underlying28 hi hz0 hz1 hz2 rfl (by decide) _ _ _ rfl (hown2.alloc _) ⟨w2.heap.size, 0, none⟩ 1 1 [.int .i64 x] rfl rfl (cell_one_new _ _ _) (by simp [Value.oneCell']) (by unfold maxLen; omega) (by omega) (by simp; omega) ?_; intro v' w3 hown' hgrow _)
            have hg3 : G w1 w3 := (hg2.alloc _).grown hgrow (fun r e => (hown2.lt r e).1)
            rw [show vI .i64 (plL a n (l.take k)) ++ [Value.int .i64 x] = vI .i64 (plL a n (l.take k) ++ [x]) by simp [vI], ← HU.out] at hown'
            go_wp2_with fail
            go_roundw
            case rel => exact ⟨k + 1, by omega, by go_num, hg3, hown'⟩
            case measure => simp [intOf]; omega
          · obtain rfl : k = l.length := by omega
            rw [List.take_length] at hown
            go_wp2_with fail
            go_ret2
            exact ⟨_, rfl, Rd.of_own hown, g1.trans hg⟩
      · obtain rfl : n = 0 := by omega
        rw [show max (0 : Int) 1 = 1 from rfl]
        go_enter Tryd.func17, Tryd.ntmps17
        go_wp2_with fail
        go_at_call 32
        refine (rnames_any l _ _ HV.out HO.out).mono ?_
        rintro e w1 ⟨rfl, g1⟩
        rw [HC.out]
        go_wp2_with fail
        go_loopw [9, 10] (fun ov kv wr => ∃ k : Nat, k ≤ l.length ∧ kv = .int .i64 k ∧ G w1 wr ∧ wr.ownsRow w1.heap.size 2 1 ov k (vI .i64 (plL a 1 (l.take k)))) (fun _ kv _ => l.length - (intOf kv).toNat)
        case atStart => exact ⟨0, by omega, rfl, G.refl _, World.ownsRow_nil _ _ _ _⟩
        case round =>
          obtain ⟨k, hk, rfl, hg, hown⟩ := hrel
          by_cases hlt : k < l.length
          · have hkl : (k : Int) < l.length := by omega
            have HU := Lib.hid (plL_take a 1 l hlt)
            rw [place_zero] at HU
            have hsz := hg.size
            go_wp2_with (at_builtin; refine wpList_append_own _ rfl _ _ 28 rfl w1.heap.size 2 i0 (.int .i64 0) 1 8 Tryd.underlying28 hi hz0 hz1 hz2 rfl (by decide) _ _ _ rfl (hown.alloc _) ⟨wr.heap.size, 0, none⟩ 1 1 [.int .i64 0] rfl rfl (cell_one_new _ _ _) (by simp [Value.oneCell']) (by unfold maxLen; omega) (by omega) (by simp; omega) ?_; intro v' w3 hown' hgrow _)
            have hg3 : G w1 w3 := (hg.alloc _).grown hgrow (fun r e => (hown.lt r e).1)
            rw [show vI .i64 (plL a 1 (l.take k)) ++ [Value.int .i64 0] = vI .i64 (plL a 1 (l.take k) ++ [0]) by simp [vI], ← HU.out] at hown'
            go_wp2_with fail
            go_roundw
            case rel => exact ⟨k + 1, by omega, by go_num, hg3, hown'⟩
            case measure => simp [intOf]; omega
          · obtain rfl : k = l.length := by omega
            rw [List.take_length] at hown
            go_wp2_with fail
            go_ret2
            exact ⟨_, rfl, Rd.of_own hown, g1.trans hg⟩
    · have HE : Hid (spE l n = 2) := Lib.hid (by unfold spE; rw [if_pos hc, if_neg hn])
      have HL : Hid (spL a n l = []) := Lib.hid (by unfold spL; rw [if_neg (by rw [HE.out]; decide)])
      have HC := Lib.hid hc
      have hn2 : n < 0 ∨ 68719476736 < n := by omega
      rw [HE.out, HL.out]
      clear HE HL hc hn
      rcases hn2 with hn | hn
      all_goals (
        go_enter Tryd.func17, Tryd.ntmps17
        go_wp2_with fail
        go_at_call 32
        refine (rnames_any l _ _ HV.out HO.out).mono ?_
        rintro e w1 ⟨rfl, g1⟩
        rw [HC.out]
        go_wp2_with fail
        go_ret2
        exact ⟨_, rfl, Rd.nil _, (by repeat (first | exact G.refl _ | refine G.alloc ?_ _ | refine G.drewN ?_ _ | refine G.drew ?_ | refine G.trans ?_ (by assumption)))⟩)
  · have HE : Hid (spE l n = chkH l) := Lib.hid (by unfold spE; rw [if_neg hc])
    have HL : Hid (spL a n l = []) := Lib.hid (by unfold spL; rw [if_neg (by rw [HE.out]; exact hc)])
    rw [HE.out, HL.out]
    obtain ⟨q, hq⟩ : ∃ q, chkH l = q := ⟨_, rfl⟩
    have HQ := Lib.hid hq
    have hcq := chkH_bd l
    rw [hq] at hc hcq ⊢
    have h0 : (q == 0) = false := by simpa using hc
    have h1 : (q != 0) = true := by simpa using hc
    clear hc hq hcq HE HL
    go_enter Tryd.func17, Tryd.ntmps17
    go_wp2_with fail
    go_at_call 32
    refine (rnames_any l _ _ HV.out HO.out).mono ?_
    rintro e w1 ⟨rfl, g1⟩
    rw [HQ.out]
    go_wp2_with fail
    go_ret2
    exact ⟨_, rfl, Rd.nil _, (by repeat (first | exact G.refl _ | refine G.alloc ?_ _ | refine G.drewN ?_ _ | refine G.drew ?_ | refine G.trans ?_ (by assumption)))⟩
set_option maxHeartbeats 1000000 in
theorem rsplay_any (s : ByteArray) (a n : Int) (ha : u64 a) (n0 : -9223372036854775808 ≤ n) (n1 : n ≤ 9223372036854775807) (hs : s.size < 9223372036854775807) (w : World) :
    Calls Tryd.prog 15 #[.string s, .int .u64 a, .int .i64 n] w fun e w' => e = .returned (.tuple #[.int .i64 (spV a n s), .int .i64 (spE [s] n)]) ∧ G w w' := by
  have HO : Hid (okS [s]) := Lib.hid (by
    intro j
    match j with
    | 0 => exact hs
    | j + 1 => simp)
  by_cases hE : spE [s] n = 0
  · have HE := Lib.hid hE
    have HL : Hid (spL a n [s] = [spV a n s]) := Lib.hid (by unfold spL spV; rw [if_pos hE, if_pos hE]; rfl)
    rw [hE]
    clear hE
    generalize spV a n s = x at *
    go_enter Tryd.func15, Tryd.ntmps15
    go_wp2_with fail
    go_at_call 17
    refine (rsplays_any [s] _ a n ha n0 n1 _ (Rd.blk (Blk.new w _ #[.string s]) (by simp)) HO.out).mono ?_
    rintro e w1 ⟨v1, rfl, hr, g1⟩
    rw [HE.out]
    rw [HL.out] at hr
    obtain ⟨A1, c1, rfl, hc1, hm1, hr1⟩ := hr
    obtain ⟨b1, o1, rfl, hd1⟩ := hr1 (by simp [vI])
    have d1 : w1.cell? ⟨b1, o1, none⟩ = some (.int .i64 x) := hd1 0 _ rfl
    rw [show (vI .i64 [x]).length = 1 from rfl] at *
    clear hd1
    go_wp2_with fail
    go_ret2
    exact ⟨rfl, (by repeat (first | exact G.refl _ | refine G.alloc ?_ _ | refine G.drewN ?_ _ | refine G.drew ?_ | refine G.trans ?_ (by assumption)))⟩
  · have HL : Hid (spV a n s = 0) := Lib.hid (by unfold spV; rw [if_neg hE])
    rw [HL.out]
    obtain ⟨q, hq⟩ : ∃ q, spE [s] n = q := ⟨_, rfl⟩
    have HQ := Lib.hid hq
    have hcq := spE_bd [s] n
    rw [hq] at hE hcq ⊢
    have h0 : (q == 0) = false := by simpa using hE
    have h1 : (q != 0) = true := by simpa using hE
    clear hE hq hcq HL
    go_enter Tryd.func15, Tryd.ntmps15
    go_wp2_with fail
    go_at_call 17
    refine (rsplays_any [s] _ a n ha n0 n1 _ (Rd.blk (Blk.new w _ #[.string s]) (by simp)) HO.out).mono ?_
    rintro e w1 ⟨v1, rfl, hr, g1⟩
    rw [HQ.out]
    clear hr
    go_wp2_with fail
    go_ret2
    exact ⟨rfl, (by repeat (first | exact G.refl _ | refine G.alloc ?_ _ | refine G.drewN ?_ _ | refine G.drew ?_ | refine G.trans ?_ (by assumption)))⟩
end Go.Proofs.YtodijghpeikmoaaDoor
