/-
  Package hash and the document's side: Buckets.
-/
import Derived.Test.YtodijghpeikmoaaDoorHsT
set_option linter.unusedVariables false
set_option linter.unusedSimpArgs false
namespace Go.Proofs.YtodijghpeikmoaaDoor
open Go.RowKit Go.Shelf

theorem bkE_bd (l : List ByteArray) (n : Int) : bkE l n = 0 ∨ bkE l n = 2 ∨ bkE l n = 12 ∨ bkE l n = 15 := by
  unfold bkE
  have := chkH_bd l
  split
  · split <;> simp
  · omega
set_option maxHeartbeats 2000000 in
theorem buckets_any (l : List ByteArray) (v : Value) (a n : Int) (ha : u64 a) (w : World) (hv : Rd w v (vS l)) (ht : Tab w) :
    Calls Tryd.prog 18 #[v, .int .u64 a, .int .i64 n] w fun e w' => ∃ v', e = .returned (.tuple #[v', .int .i64 (bkE l n)]) ∧ Rd w' v' (vI .i64 (bkL l a n)) ∧ G w w' := by
  by_cases hc : chkH l = 0
  · by_cases hn : 1 ≤ n ∧ n ≤ 64
    · have HE : bkE l n = 0 := by unfold bkE; rw [if_pos hc, if_pos hn]
      have HL : bkL l a n = cntL a n.toNat l := by unfold bkL; rw [if_pos HE]
      rw [HE, HL]
      obtain ⟨m, rfl⟩ : ∃ m : Nat, n = m := ⟨n.toNat, by omega⟩
      exact buckets_ok l v a m ha w hv ht (chk_okS hc) hc (by omega) (by omega)
    · have HE : Hid (bkE l n = 2) := Lib.hid (by unfold bkE; rw [if_pos hc, if_neg hn])
      have HL : Hid (bkL l a n = []) := Lib.hid (by unfold bkL; rw [if_neg (by rw [HE.out]; decide)])
      have HC := Lib.hid hc
      have hn2 : n < 1 ∨ 64 < n := by omega
      rw [HE.out, HL.out]
      clear HE HL hc hn
      have HV := Lib.hid hv
      obtain ⟨A, c, rfl, hcc, hcm, hr⟩ := hv
      rw [vS_len] at *
      clear hr
      rcases hn2 with hn | hn
      all_goals (
        go_enter Tryd.func18, Tryd.ntmps18
        go_wp2_with fail
        go_at_call 30
        refine (hcheck_any l _ _ HV.out).mono ?_
        rintro e w1 ⟨rfl, g1⟩
        rw [HC.out]
        go_wp2_with fail
        go_ret2
        exact ⟨_, rfl, Rd.nil _, (by repeat (first | exact G.refl _ | refine G.alloc ?_ _ | refine G.drewN ?_ _ | refine G.drew ?_ | refine G.trans ?_ (by assumption)))⟩)
  · have HE : Hid (bkE l n = chkH l) := Lib.hid (by unfold bkE; rw [if_neg hc])
    have HL : Hid (bkL l a n = []) := Lib.hid (by unfold bkL; rw [if_neg (by rw [HE.out]; exact hc)])
    rw [HE.out, HL.out]
    have hb := chkH_bd l
    have HV := Lib.hid hv
    obtain ⟨A, c, rfl, hcc, hcm, hr⟩ := hv
    rw [vS_len] at *
    clear hr
    obtain ⟨q, hq⟩ : ∃ q, chkH l = q := ⟨_, rfl⟩
    have HQ := Lib.hid hq
    rw [hq] at hc hb ⊢
    have h0 : (q == 0) = false := by simpa using hc
    have h1 : (q != 0) = true := by simpa using hc
    clear hc hq hb HE HL
    go_enter Tryd.func18, Tryd.ntmps18
    go_wp2_with fail
    go_at_call 30
    refine (hcheck_any l _ _ HV.out).mono ?_
    rintro e w1 ⟨rfl, g1⟩
    rw [HQ.out]
    go_wp2_with fail
    go_ret2
    exact ⟨_, rfl, Rd.nil _, (by repeat (first | exact G.refl _ | refine G.alloc ?_ _ | refine G.drewN ?_ _ | refine G.drew ?_ | refine G.trans ?_ (by assumption)))⟩
set_option maxHeartbeats 2000000 in
theorem rbuckets_any (l : List ByteArray) (v : Value) (a n : Int) (ha : u64 a) (w : World) (hv : Rd w v (vS l)) (hok : okS l) :
    Calls Tryd.prog 19 #[v, .int .u64 a, .int .i64 n] w fun e w' => ∃ v', e = .returned (.tuple #[v', .int .i64 (bkE l n)]) ∧ Rd w' v' (vI .i64 (bkL l a n)) ∧ G w w' := by
  have HV := Lib.hid hv
  obtain ⟨A, c, rfl, hcc, hcm, hr⟩ := hv
  rw [vS_len] at *
  have HR : Hid (∀ k, k < l.length → ∃ b o, A = some ⟨b, o, none⟩ ∧ w.cell? ⟨b, o + k, none⟩ = some (.string (l[k]?.getD ByteArray.empty))) := Lib.hid (fun k hk => by
      obtain ⟨b, o, e, h⟩ := hr (by omega)
      exact ⟨b, o, e, h k _ (vS_get hk)⟩)
  have HO := Lib.hid hok
  clear hr hok
  by_cases hc : chkH l = 0
  · have hll := chkH_ok hc
    by_cases hn : 1 ≤ n ∧ n ≤ 64
    · have HE : Hid (bkE l n = 0) := Lib.hid (by unfold bkE; rw [if_pos hc, if_pos hn])
      have HL : Hid (bkL l a n = cntL a n.toNat l) := Lib.hid (by unfold bkL; rw [if_pos HE.out])
      have HC := Lib.hid hc
      obtain ⟨m, rfl⟩ : ∃ m : Nat, n = m := ⟨n.toNat, by omega⟩
      obtain ⟨hna, hnb⟩ := hn
      rw [HE.out, HL.out, Int.toNat_natCast]
      clear HE HL hc
      have hmk := fun W => make_ints m (by omega) W
      have hwn : IntKind.u64.wrap (m : Int) = m := by rw [IntKind.wrap_u64]; omega
      go_enter Tryd.func19, Tryd.ntmps19
      go_wp2_with fail
      go_at_call 32
      refine (rnames_any l _ _ HV.out HO.out).mono ?_
      rintro e w1 ⟨rfl, g1⟩
      rw [HC.out]
      go_wp2_with fail
      have hB : Blk (w1.alloc (.cells (vI .i64 (List.replicate m 0)).toArray 3)) w1.heap.size 3 (vI .i64 (cntL a m [])).toArray := Blk.new w1 _ _
      have gB : G w1 (w1.alloc (.cells (vI .i64 (List.replicate m 0)).toArray 3)) := (G.refl w1).alloc _
      generalize (w1.alloc (.cells (vI .i64 (List.replicate m 0)).toArray 3)) = w2 at *
      go_loopw [10] (fun kv wr => ∃ k : Nat, k ≤ l.length ∧ kv = .int .i64 k ∧ G w1 wr ∧ Blk wr w1.heap.size 3 (vI .i64 (cntL a m (l.take k))).toArray) (fun kv _ => l.length - (intOf kv).toNat)
      case atStart => exact ⟨0, by omega, rfl, gB, hB⟩
      case round =>
        obtain ⟨k, hk, rfl, hg, hO⟩ := hrel
        clear hB gB
        by_cases hlt : k < l.length
        · have hkl : (k : Int) < l.length := by omega
          obtain ⟨b, o, rfl, hcell⟩ := HR.out k hlt
          have d0 := hg.cell (World.block_lt_of_cell? w1 _ (g1.cell (World.block_lt_of_cell? w _ hcell) hcell)) (g1.cell (World.block_lt_of_cell? w _ hcell) hcell)
          have HU := Lib.hid (take_snoc l hlt)
          have HZ := Lib.hid (HO.out k)
          clear hcell
          generalize l[k]?.getD ByteArray.empty = s at *
          go_wp2_with fail
          go_at_call 33
          refine (place_any a m s (by omega) (by omega) HZ.out _).mono ?_
          rintro e w3 ⟨rfl, g2⟩
          have hp := placeI_bd a m s (by omega)
          obtain ⟨p, hpp⟩ : ∃ p : Nat, placeI a m s = p := ⟨(placeI a m s).toNat, by omega⟩
          have HS := Lib.hid (cntL_snoc a m (l.take k) s)
          have hb1 := cntL_bd a m (l.take k) p
          have hlen := cntL_len a m (l.take k)
          have hpl : (l.take k).length ≤ 64 := by rw [List.length_take]; omega
          rw [hpp] at hp HS
          have hpn : p < m := by omega
          have hO2 := hO.g g2
          have hg2 := hg.trans g2
          have d1 : w3.cell? ⟨w1.heap.size, p, none⟩ = some (.int .i64 (at_ (cntL a m (l.take k)) p)) := by rw [hO2.cell p]; have := vI_get (k := .i64) (l := cntL a m (l.take k)) (j := p) (by omega); simpa [at_] using this
          have f1 := hO2.frozen p
          rw [hpp]
          have HL := Lib.hid hlen
          clear hpp hlen
          have hpi : (p : Int) < m := by omega
          have hwp : IntKind.i64.wrap (p : Int) = p := by rw [IntKind.wrap_i64]; omega
          go_wp2_with fail
          go_roundw
          case rel =>
            refine ⟨k + 1, by omega, by go_num, hg2.setCell (p := ⟨w1.heap.size, p, none⟩) (Nat.le_refl _) _, ?_⟩
            have h2 := hO2.set_ p (.int .i64 (at_ (cntL a m (l.take k)) p + 1))
            rw [vI_set] at h2
            rw [HU.out, HS.out]
            exact h2
          case measure => simp [intOf]; omega
        · obtain rfl : k = l.length := by omega
          rw [List.take_length] at hO
          have hr := Rd.ints hO (by rw [cntL_len]; omega)
          rw [cntL_len] at hr
          go_wp2_with fail
          go_ret2
          exact ⟨_, rfl, hr, g1.trans hg⟩
    · have HE : Hid (bkE l n = 2) := Lib.hid (by unfold bkE; rw [if_pos hc, if_neg hn])
      have HL : Hid (bkL l a n = []) := Lib.hid (by unfold bkL; rw [if_neg (by rw [HE.out]; decide)])
      have HC := Lib.hid hc
      have hn2 : n < 1 ∨ 64 < n := by omega
      rw [HE.out, HL.out]
      clear HE HL hc hn
      rcases hn2 with hn | hn
      all_goals (
        go_enter Tryd.func19, Tryd.ntmps19
        go_wp2_with fail
        go_at_call 32
        refine (rnames_any l _ _ HV.out HO.out).mono ?_
        rintro e w1 ⟨rfl, g1⟩
        rw [HC.out]
        go_wp2_with fail
        go_ret2
        exact ⟨_, rfl, Rd.nil _, (by repeat (first | exact G.refl _ | refine G.alloc ?_ _ | refine G.drewN ?_ _ | refine G.drew ?_ | refine G.trans ?_ (by assumption)))⟩)
  · have HE : Hid (bkE l n = chkH l) := Lib.hid (by unfold bkE; rw [if_neg hc])
    have HL : Hid (bkL l a n = []) := Lib.hid (by unfold bkL; rw [if_neg (by rw [HE.out]; exact hc)])
    rw [HE.out, HL.out]
    have hb := chkH_bd l
    obtain ⟨q, hq⟩ : ∃ q, chkH l = q := ⟨_, rfl⟩
    have HQ := Lib.hid hq
    rw [hq] at hc hb ⊢
    have h0 : (q == 0) = false := by simpa using hc
    have h1 : (q != 0) = true := by simpa using hc
    clear hc hq hb HE HL
    go_enter Tryd.func19, Tryd.ntmps19
    go_wp2_with fail
    go_at_call 32
    refine (rnames_any l _ _ HV.out HO.out).mono ?_
    rintro e w1 ⟨rfl, g1⟩
    rw [HQ.out]
    go_wp2_with fail
    go_ret2
    exact ⟨_, rfl, Rd.nil _, (by repeat (first | exact G.refl _ | refine G.alloc ?_ _ | refine G.drewN ?_ _ | refine G.drew ?_ | refine G.trans ?_ (by assumption)))⟩
end Go.Proofs.YtodijghpeikmoaaDoor
