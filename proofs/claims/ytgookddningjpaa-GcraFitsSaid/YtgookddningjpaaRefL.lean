/-
  The document's Fits.
-/
import Derived.Test.YtgookddningjpaaRefI
import Derived.Test.YtgookddningjpaaGcF
set_option linter.unusedVariables false
set_option linter.unusedSimpArgs false
namespace Go.Proofs.Ytgookddningjpaa
open Go.RowKit

theorem sorted_no {l : List Int} {n : Nat} {k : Nat} (hk : k < n) (h0 : 0 < k) (h : at_ l k < at_ l (k - 1)) : sortedTo l n = false := by
  induction n with
  | zero => omega
  | succ n ih =>
    show (sortedTo l n && (decide (n = 0) || decide (at_ l (n - 1) ≤ at_ l n))) = false
    by_cases e : k = n
    · subst e
      rw [show decide (k = 0) = false by simp; omega, show decide (at_ l (k - 1) ≤ at_ l k) = false by simp; omega]; simp
    · rw [ih (by omega)]; rfl
theorem sorted_yes {l : List Int} {n : Nat} (h : ∀ k, k < n → 0 < k → at_ l (k - 1) ≤ at_ l k) : sortedTo l n = true := by
  induction n with
  | zero => rfl
  | succ n ih =>
    show (sortedTo l n && (decide (n = 0) || decide (at_ l (n - 1) ≤ at_ l n))) = true
    rw [ih (fun k hk h0 => h k (by omega) h0)]
    by_cases e : n = 0
    · subst e; rfl
    · rw [show decide (at_ l (n - 1) ≤ at_ l n) = true from decide_eq_true (h n (by omega) (by omega))]; simp
theorem checkE_at {l : List Int} {T Tau : Int} {m : Nat} (hT : isT (at_ l m)) (hs : 0 < m → at_ l (m - 1) ≤ at_ l m) :
    checkE (decide (0 < m)) (tatTo l T m) (lastTo l m) T Tau (at_ l m) = if isEarly l T Tau m = true then 9 else 0 := by
  unfold checkE
  rw [if_neg (by simpa using hT), if_neg]
  · rfl
  · rintro ⟨h1, h2⟩
    have h0 : 0 < m := by simpa using h1
    have := hs h0
    obtain ⟨j, rfl⟩ : ∃ j, m = j + 1 := ⟨m - 1, by omega⟩
    have e : lastTo l (j + 1) = at_ l j := rfl
    rw [e] at h2
    have e2 : j + 1 - 1 = j := by omega
    rw [e2] at this
    omega

set_option maxHeartbeats 800000 in
theorem rfits_inv (v : Value) (l : List Int) (T Tau : Int) (hv : ¬ validL T Tau) (w : World) :
    Calls Try.prog 37 #[.agg #[.int .i64 T, .int .i64 Tau], v] w fun e w' => e = .returned (.tuple #[.int .i64 0, .bool false, .int .i64 16]) ∧ G w w' := by
  have HV := Lib.hid hv
  clear hv
  go_enter Try.func37, Try.ntmps37
  go_wp2_with fail
  refine (rnew_no T Tau HV.out _).mono ?_
  rintro e w1 ⟨rfl, g1⟩
  go_wp2_with fail
  go_ret3
  exact ⟨rfl, (by repeat (first | exact G.refl _ | refine G.alloc ?_ _ | refine G.drewN ?_ _ | refine G.drew ?_ | refine G.trans ?_ (by assumption)))⟩

set_option maxHeartbeats 3200000 in
theorem rfits_val (v : Value) (l : List Int) (T Tau : Int) (hv : validL T Tau) (w : World) (hR : Rd w v (vI .i64 l)) :
    Calls Try.prog 37 #[.agg #[.int .i64 T, .int .i64 Tau], v] w fun e w' => e = .returned (.tuple #[.int .i64 (fitsAll l T Tau).1, .bool (fitsAll l T Tau).2.1, .int .i64 (fitsAll l T Tau).2.2]) ∧ G w w' := by
  have HV := Lib.hid hv
  clear hv
  have hall : fitsAll l T Tau = (if 100000 < l.length then ((0 : Int), false, (12 : Int))
      else if ¬ (∀ k, k < l.length → isT (at_ l k)) then (0, false, 14)
      else if sortedTo l l.length = false then (0, false, 8)
      else match firstE (isEarly l T Tau) l.length with
        | some k => ((k : Int), true, 0)
        | none => (0, false, 0)) := by
    unfold fitsAll; rw [if_neg (by simpa using HV.out)]; rfl
  obtain ⟨A, cap, rfl, hcap, hmax, hrd⟩ := hR
  rw [vI_len] at hcap hrd ⊢
  generalize fitsAll l T Tau = R at hall ⊢
  obtain ⟨n, hn⟩ : ∃ n, l.length = n := ⟨_, rfl⟩
  rw [hn] at hcap hrd hall ⊢
  have HN := Lib.hid hn
  have HR := Lib.hid hrd
  clear hn hrd
  by_cases hbig : 100000 < n
  · rw [if_pos hbig] at hall
    subst hall
    go_enter Try.func37, Try.ntmps37
    go_wp2_with fail
    refine (rnew_yes T Tau HV.out _).mono ?_
    rintro e w1 ⟨kL, rfl, hk, g1, hb1⟩
    go_wp2_with fail
    go_ret3
    exact ⟨rfl, (by repeat (first | exact G.refl _ | refine G.alloc ?_ _ | refine G.drewN ?_ _ | refine G.drew ?_ | refine G.trans ?_ (by assumption)))⟩
  · rw [if_neg hbig] at hall
    have HA := Lib.hid hall
    clear hall
    go_enter Try.func37, Try.ntmps37
    go_wp2_with fail
    refine (rnew_yes T Tau HV.out _).mono ?_
    rintro e W ⟨kL, rfl, hkL, g1, hL⟩
    have hG : G w W := (by repeat (first | exact G.refl _ | refine G.alloc ?_ _ | refine G.drewN ?_ _ | refine G.drew ?_ | refine G.trans ?_ (by assumption)))
    clear g1
    have hkL2 : w.heap.size ≤ kL := by simp at hkL; omega
    clear hkL
    go_wp2_with fail
    go_loopw [9] (fun i wr => ∃ k : Nat, k ≤ n ∧ i = .int .i64 k ∧ G W wr ∧ Hid (∀ j, j < k → isT (at_ l j))) (fun i _ => n - (intOf i).toNat)
    case atStart => exact ⟨0, by omega, rfl, G.refl _, (fun j hj => by omega : ∀ j, j < 0 → isT (at_ l j))⟩
    case round =>
      obtain ⟨k, hk, rfl, hg, hT⟩ := hrel
      by_cases hlt : k < n
      · obtain ⟨b, o, rfl, hc⟩ := HR.out (by omega)
        have d0 := at_vI hc (k := k) (by rw [HN.out]; exact hlt)
        have d0 := (hG.trans hg).cell (World.block_lt_of_cell? w _ d0) d0
        clear hc
        by_cases hTk : isT (at_ l k)
        · have HT2 : Hid (∀ j, j < k + 1 → isT (at_ l j)) := Lib.hid (fun j hj => by
            by_cases e : j = k
            · rw [e]; exact hTk
            · exact hT.out j (by omega))
          obtain ⟨t0, t1⟩ := hTk
          have e0 : decide (at_ l k < 0) = false := by simp; omega
          have e1 : decide (253402300799 < at_ l k) = false := by simp; omega
          generalize at_ l k = x at *
          go_wp2_with fail
          go_roundw
          case rel => exact ⟨k + 1, by omega, by go_num, hg, HT2⟩
          case measure => simp [intOf]; omega
        · have hR14 : R = (0, false, 14) := by
            rw [HA.out, if_pos]
            intro h
            exact hTk (h k hlt)
          subst hR14
          clear HA
          by_cases e0 : at_ l k < 0
          · clear hTk
            generalize at_ l k = x at *
            go_wp2_with fail
            go_ret3
            exact ⟨rfl, hG.trans hg⟩
          · have e1 : 253402300799 < at_ l k := by
              apply Classical.byContradiction
              intro h
              exact hTk ⟨by omega, by omega⟩
            clear hTk
            generalize at_ l k = x at *
            go_wp2_with fail
            go_ret3
            exact ⟨rfl, hG.trans hg⟩
      · obtain rfl : k = n := by omega
        have hA2 := HA.out
        rw [if_neg (by intro h; exact h hT.out)] at hA2
        have hG2 := hG.trans hg
        have hL2 := hL.g hg
        clear hG hL hg HA
        have HA := Lib.hid hA2
        clear hA2
        obtain ⟨wo, rfl⟩ : ∃ wo : World, wo = wr := ⟨_, rfl⟩
        go_wp2_with fail
        go_loopw [10] (fun i wr => ∃ m : Nat, 0 < m ∧ (m ≤ k ∨ m = 1) ∧ i = .int .i64 m ∧ G wo wr ∧ Hid (∀ j, j < m → 0 < j → at_ l (j - 1) ≤ at_ l j)) (fun i _ => k - (intOf i).toNat)
        case atStart => exact ⟨1, by omega, by omega, rfl, G.refl _, (fun j hj h0 => by omega : ∀ j, j < 1 → 0 < j → at_ l (j - 1) ≤ at_ l j)⟩
        case round =>
          obtain ⟨m, hm0, hm, rfl, hg, hS⟩ := hrel
          by_cases hlt : m < k
          · obtain ⟨b, o, rfl, hc⟩ := HR.out (by omega)
            have d0 := at_vI hc (k := m) (by rw [HN.out]; exact hlt)
            have d0 := (hG2.trans hg).cell (World.block_lt_of_cell? w _ d0) d0
            have d1 := at_vI hc (k := m - 1) (by rw [HN.out]; omega)
            have d1 := (hG2.trans hg).cell (World.block_lt_of_cell? w _ d1) d1
            have e1 : (m : Int) - 1 = ((m - 1 : Nat) : Int) := by omega
            clear hc
            by_cases hle : at_ l m < at_ l (m - 1)
            · have hR8 : R = (0, false, 8) := by rw [HA.out, if_pos (sorted_no hlt hm0 hle)]
              subst hR8
              clear HA
              generalize at_ l m = x at *
              generalize at_ l (m - 1) = y at *
              go_wp2_with fail
              go_quiet (fail)
              go_wp2_with fail
              go_ret3
              exact ⟨rfl, (hG2.trans hg).drewN _⟩
            · have HS2 : Hid (∀ j, j < m + 1 → 0 < j → at_ l (j - 1) ≤ at_ l j) := Lib.hid (fun j hj h0 => by
                by_cases e : j = m
                · rw [e]; omega
                · exact hS.out j (by omega) h0)
              generalize at_ l m = x at *
              generalize at_ l (m - 1) = y at *
              go_wp2_with fail
              go_quiet (fail)
              go_wp2_with fail
              go_roundw
              case rel => exact ⟨m + 1, by omega, by omega, by go_num, hg.drewN _, HS2⟩
              case measure => simp [intOf]; omega
          · have HS2 : Hid (∀ j, j < k → 0 < j → at_ l (j - 1) ≤ at_ l j) := Lib.hid (fun j hj h0 => hS.out j (by omega) h0)
            have hA2 := HA.out
            rw [if_neg (by rw [sorted_yes HS2.out]; simp)] at hA2
            have hG3 := hG2.trans hg
            have hL3 := hL2.g hg
            clear hG2 hL2 hg HA hS
            have HA := Lib.hid hA2
            clear hA2
            obtain ⟨wp, rfl⟩ : ∃ wp : World, wp = wr := ⟨_, rfl⟩
            have hmi : (k : Int) ≤ m := by omega
            go_wp2_with fail
            go_loopw [11] (fun i wr => ∃ m : Nat, m ≤ k ∧ i = .int .i64 m ∧ G w wr ∧ RLim wr kL (decide (0 < m)) (tatTo l T m) (lastTo l m) T Tau ∧ Hid (∀ j, j < m → isEarly l T Tau j = false)) (fun i _ => k - (intOf i).toNat)
            case atStart => exact ⟨0, by omega, rfl, hG3, hL3, (fun j hj => by omega : ∀ j, j < 0 → isEarly l T Tau j = false)⟩
            case round =>
              clear hG3 hL3
              clear hmi
              clear hm hm0 hlt
              obtain ⟨m, hm, rfl, hg, hL, hE⟩ := hrel
              by_cases hlt : m < k
              · obtain ⟨b, o, rfl, hc⟩ := HR.out (by omega)
                have d0 := at_vI hc (k := m) (by rw [HN.out]; exact hlt)
                have d0 := hg.cell (World.block_lt_of_cell? w _ d0) d0
                have hok := (tatTo_ok HV.out m (fun j hj => hT.out j (by omega)) hE.out m (Nat.le_refl _)).1
                have hce := checkE_at (T := T) (Tau := Tau) (hT.out m hlt) (fun h0 => HS2.out m hlt h0)
                have hs0 : decide (0 < m) = false → tatTo l T m = 0 := by
                  intro h
                  have : m = 0 := by simp at h; omega
                  subst this; rfl
                have HOK := Lib.hid hok
                have HS0 := Lib.hid hs0
                clear hok hc hs0
                by_cases he : isEarly l T Tau m = true
                · have hR : R = ((m : Int), true, 0) := by
                    rw [HA.out, firstE_some hlt he hE.out]
                  subst hR
                  rw [if_pos he] at hce
                  have HCE := Lib.hid hce
                  clear he HA hce
                  go_wp2_with fail
                  refine (rtake_no kL _ _ _ _ _ _ HOK.out (by rw [HCE.out]; decide) _ hL).mono ?_
                  rintro e w2 ⟨rfl, g2⟩
                  rw [HCE.out]
                  go_wp2_with fail
                  go_ret3
                  exact ⟨rfl, hg.trans g2⟩
                · have he : isEarly l T Tau m = false := by simpa using he
                  rw [if_neg (by rw [he]; simp)] at hce
                  have HE2 := Lib.hid he
                  have HCE := Lib.hid hce
                  clear he hce
                  go_wp2_with fail
                  refine (rtake_ok kL _ _ _ _ _ _ HOK.out HS0.out HCE.out _ hL).mono ?_
                  rintro e w2 ⟨rfl, g2, hL2⟩
                  go_wp2_with fail
                  go_roundw
                  case rel => exact ⟨m + 1, by omega, by go_num, hg.own g2 hkL2, (by rw [show decide (0 < m + 1) = true by simp]; exact hL2), (fun j hj => by
                    by_cases e : j = m
                    · rw [e]; exact HE2.out
                    · exact hE.out j (by omega) : ∀ j, j < m + 1 → isEarly l T Tau j = false)⟩
                  case measure => simp [intOf]; omega
              · obtain rfl : m = k := by omega
                have hR : R = (0, false, 0) := by
                  rw [HA.out, firstE_none hE.out]
                subst hR
                clear HA
                go_wp2_with fail
                go_ret3
                exact ⟨rfl, hg⟩
end Go.Proofs.Ytgookddningjpaa
