/-
  Contracts of package gcra: Fits and its closure.
-/
import Derived.Test.YtgookddningjpaaGcE
set_option linter.unusedVariables false
set_option linter.unusedSimpArgs false
namespace Go.Proofs.Ytgookddningjpaa
open Go.RowKit

def at_ (l : List Int) (k : Nat) : Int := l[k]?.getD 0
/-- the arrival time behind the first k launches -/
def tatTo (l : List Int) (T : Int) : Nat → Int
  | 0 => 0
  | k + 1 => max (at_ l k) (tatTo l T k) + T
def lastTo (l : List Int) : Nat → Int
  | 0 => 0
  | k + 1 => at_ l k
/-- the launch with the index k is too early, all before it being counted -/
def isEarly (l : List Int) (T Tau : Int) (k : Nat) : Bool := earlyB (decide (0 < k)) (tatTo l T k) T Tau (at_ l k)
def sortedTo (l : List Int) : Nat → Bool
  | 0 => true
  | k + 1 => sortedTo l k && (decide (k = 0) || decide (at_ l (k - 1) ≤ at_ l k))
/-- the first index below n of which f holds -/
def firstE (f : Nat → Bool) (n : Nat) : Option Nat := (List.range n).find? f
theorem firstE_some {f : Nat → Bool} {n k : Nat} (hk : k < n) (h : f k = true) (hb : ∀ j, j < k → f j = false) : firstE f n = some k := by
  unfold firstE
  induction n with
  | zero => omega
  | succ n ih =>
    rw [List.range_succ, List.find?_append]
    by_cases hn : k < n
    · rw [ih hn]; rfl
    · obtain rfl : k = n := by omega
      have : (List.range k).find? f = none := by
        rw [List.find?_eq_none]; intro x hx; rw [List.mem_range] at hx; simp [hb x hx]
      rw [this]; simp [h]
theorem firstE_none {f : Nat → Bool} {n : Nat} (hb : ∀ j, j < n → f j = false) : firstE f n = none := by
  unfold firstE
  rw [List.find?_eq_none]; intro x hx; rw [List.mem_range] at hx; simp [hb x hx]
/-- what Fits returns -/
def fitsAll (l : List Int) (T Tau : Int) : Int × Bool × Int :=
  if ¬ validL T Tau then (0, false, 16) else if 100000 < l.length then (0, false, 12)
  else if ¬ (∀ k, k < l.length → isT (at_ l k)) then (0, false, 14)
  else if sortedTo l l.length = false then (0, false, 8)
  else match firstE (isEarly l T Tau) l.length with
    | some k => ((k : Int), true, 0)
    | none => (0, false, 0)

set_option maxHeartbeats 400000 in
theorem launch_no (b k : Nat) (som : Bool) (tat last T Tau now : Int) (ho : Okl tat last T Tau) (he : earlyB som tat T Tau now = true) (w : World) (hb : Lim w k som tat last T Tau) (hc : Blk w b 33 #[.pointer (some ⟨k, 0, none⟩)]) :
    Calls Try.prog 40 #[.int .i64 now, .pointer (some ⟨b, 0, none⟩)] w fun e w' => e = .returned (.bool false) ∧ G w w' := by
  have c0 : w.cell? ⟨b, 0, none⟩ = some (.pointer (some ⟨k, 0, none⟩)) := hc.cell 0
  have HO := Lib.hid ho
  have HE := Lib.hid he
  clear ho he
  go_enter Try.func40, Try.ntmps40
  go_wp2_with fail
  refine (early_any k som tat last T Tau now HO.out _ hb).mono ?_
  rintro e w1 ⟨rfl, g1⟩
  rw [HE.out]
  go_wp2_with fail
  go_ret
  exact ⟨rfl, (by repeat (first | exact G.refl _ | refine G.alloc ?_ _ | refine G.drewN ?_ _ | refine G.drew ?_ | refine G.trans ?_ (by assumption)))⟩
set_option maxHeartbeats 400000 in
theorem launch_yes (b k : Nat) (som : Bool) (tat last T Tau now : Int) (ho : Okl tat last T Tau) (hn : isT now) (he : earlyB som tat T Tau now = false) (w : World) (hb : Lim w k som tat last T Tau) (hc : Blk w b 33 #[.pointer (some ⟨k, 0, none⟩)]) :
    Calls Try.prog 40 #[.int .i64 now, .pointer (some ⟨b, 0, none⟩)] w fun e w' => e = .returned (.bool true) ∧ w.grownBy w' (some k) ∧ Lim w' k true (max now tat + T) now T Tau := by
  have c0 : w.cell? ⟨b, 0, none⟩ = some (.pointer (some ⟨k, 0, none⟩)) := hc.cell 0
  have HO := Lib.hid ho
  have HE := Lib.hid he
  have HN := Lib.hid hn
  clear ho he hn
  go_enter Try.func40, Try.ntmps40
  go_wp2_with fail
  refine (early_any k som tat last T Tau now HO.out _ hb).mono ?_
  rintro e w1 ⟨rfl, g1⟩
  rw [HE.out]
  have c1 : w1.cell? ⟨b, 0, none⟩ = some (.pointer (some ⟨k, 0, none⟩)) := (hc.g g1).cell 0
  go_wp2_with fail
  refine (count_any k som tat last T Tau now HO.out HN.out _ (hb.g g1)).mono ?_
  rintro e w2 ⟨rfl, g2, hb2⟩
  go_wp2_with fail
  go_ret
  exact ⟨rfl, grown_trans (grown_of_G g1 _) g2, hb2⟩

/-- the numbers of the limiter behind k counted launches are in their bounds -/
theorem tatTo_ok {l : List Int} {T Tau : Int} (hv : validL T Tau) (n : Nat) (ht : ∀ k, k < n → isT (at_ l k)) (he : ∀ k, k < n → isEarly l T Tau k = false) (k : Nat) (hk : k ≤ n) :
    Okl (tatTo l T k) (lastTo l k) T Tau ∧ (T = 0 → tatTo l T k ≤ 253402300799) := by
  obtain ⟨⟨t0, t1⟩, ⟨u0, u1⟩, hp⟩ := hv
  induction k with
  | zero => exact ⟨⟨⟨t0, t1⟩, ⟨u0, u1⟩, ⟨by simp [tatTo], by simp [tatTo]⟩, by simp [lastTo], by simp [lastTo]⟩, fun _ => by simp [tatTo]⟩
  | succ k ih =>
    obtain ⟨ih1, ih2⟩ := ih (by omega)
    have hT := ht k (by omega)
    have hE := he k (by omega)
    have hc : checkE (decide (0 < k)) (tatTo l T k) (min (lastTo l k) (at_ l k)) T Tau (at_ l k) = 0 := by
      unfold checkE
      rw [if_neg (by simpa using hT), if_neg (by intro h; have := h.2; omega)]
      unfold isEarly at hE
      rw [hE]; simp
    obtain ⟨a, b, c, d⟩ := ih1
    have hl : 0 ≤ min (lastTo l k) (at_ l k) := by have := hT.1; omega
    have hs0 : decide (0 < k) = false → tatTo l T k = 0 := by
      intro h
      have : k = 0 := by simp at h; omega
      subst this; rfl
    exact okl_take (last := min (lastTo l k) (at_ l k)) ⟨a, b, c, hl, by have := d.2; omega⟩ hc hs0 ih2

theorem at_vI {w : World} {l : List Int} {b o : Nat} (hc : ∀ j u, (vI .i64 l)[j]? = some u → w.cell? ⟨b, o + j, none⟩ = some u) {k : Nat} (hk : k < l.length) : w.cell? ⟨b, o + k, none⟩ = some (.int .i64 (at_ l k)) := hc k _ (vI_get hk)

set_option maxHeartbeats 800000 in
theorem fits_inv (v : Value) (l : List Int) (T Tau : Int) (hv : ¬ validL T Tau) (w : World) :
    Calls Try.prog 17 #[.agg #[.int .i64 T, .int .i64 Tau], v] w fun e w' => e = .returned (.tuple #[.int .i64 0, .bool false, .int .i64 16]) ∧ G w w' := by
  have HV := Lib.hid hv
  clear hv
  go_enter Try.func17, Try.ntmps17
  go_wp2_with fail
  refine (new_no T Tau HV.out _).mono ?_
  rintro e w1 ⟨rfl, g1⟩
  go_wp2_with fail
  go_ret3
  exact ⟨rfl, (by repeat (first | exact G.refl _ | refine G.alloc ?_ _ | refine G.drewN ?_ _ | refine G.drew ?_ | refine G.trans ?_ (by assumption)))⟩

set_option maxHeartbeats 3200000 in
theorem fits_val (v : Value) (l : List Int) (T Tau : Int) (hv : validL T Tau) (w : World) (hR : Rd w v (vI .i64 l)) :
    Calls Try.prog 17 #[.agg #[.int .i64 T, .int .i64 Tau], v] w fun e w' => e = .returned (.tuple #[.int .i64 (fitsAll l T Tau).1, .bool (fitsAll l T Tau).2.1, .int .i64 (fitsAll l T Tau).2.2]) ∧ G w w' := by
  have HV := Lib.hid hv
  clear hv
  have hall : fitsAll l T Tau = (if 100000 < l.length then ((0 : Int), false, (12 : Int))
      else if ¬ (∀ k, k < l.length → isT (at_ l k)) then (0, false, 14)
      else if sortedTo l l.length = false then (0, false, 8)
      else match firstE (isEarly l T Tau) l.length with
        | some k => ((k : Int), true, 0)
        | none => (0, false, 0)) := by
    unfold fitsAll; rw [if_neg (by simpa using HV.out)]
  obtain ⟨A, cap, rfl, hcap, hmax, hrd⟩ := hR
  rw [vI_len] at hcap hrd ⊢
  generalize fitsAll l T Tau = R at hall ⊢
  obtain ⟨n, hn⟩ : ∃ n, l.length = n := ⟨_, rfl⟩
  rw [hn] at hcap hrd hall ⊢
  have HN := Lib.hid hn
  have HR := Lib.hid hrd
  clear hn hrd
  by_cases hbig : 100000 < n
  · rw [if_pos hbig] at hall
    subst hall
    go_enter Try.func17, Try.ntmps17
    go_wp2_with fail
    refine (new_yes T Tau HV.out _).mono ?_
    rintro e w1 ⟨kL, rfl, hk, g1, hb1⟩
    go_wp2_with fail
    go_ret3
    exact ⟨rfl, (by repeat (first | exact G.refl _ | refine G.alloc ?_ _ | refine G.drewN ?_ _ | refine G.drew ?_ | refine G.trans ?_ (by assumption)))⟩
  · rw [if_neg hbig] at hall
    have HA := Lib.hid hall
    clear hall
    go_enter Try.func17, Try.ntmps17
    go_wp2_with fail
    refine (new_yes T Tau HV.out _).mono ?_
    rintro e w1 ⟨kL, rfl, hkL, g1, hb1⟩
    have hkL2 : w.heap.size ≤ kL := by simp at hkL; omega
    clear hkL
    have hlk := hb1.lt
    go_wp2_with fail
    have hV := Blk.new w1 33 #[.pointer (some ⟨kL, 0, none⟩)]
    have hL := hb1.alloc (.cells #[.pointer (some ⟨kL, 0, none⟩)] 33)
    have hG : G w (w1.alloc (.cells #[.pointer (some ⟨kL, 0, none⟩)] 33)) := (by repeat (first | exact G.refl _ | refine G.alloc ?_ _ | refine G.drewN ?_ _ | refine G.drew ?_ | refine G.trans ?_ (by assumption)))
    clear hb1 g1
    generalize w1.alloc (.cells #[.pointer (some ⟨kL, 0, none⟩)] 33) = W at hV hL hG ⊢
    generalize w1.heap.size = kV at hV hlk ⊢
    go_wp2_with fail
    go_loopw [9, 28] (fun sv i wr => ∃ k : Nat, k ≤ n ∧ i = .int .i64 k ∧ sv = .bool (sortedTo l k) ∧ G W wr ∧ Hid (∀ j, j < k → isT (at_ l j))) (fun _ i _ => n - (intOf i).toNat)
    case atStart => exact ⟨0, by omega, rfl, rfl, G.refl _, (fun j hj => by omega : ∀ j, j < 0 → isT (at_ l j))⟩
    case round =>
      obtain ⟨k, hk, rfl, rfl, hg, hT⟩ := hrel
      by_cases hlt : k < n
      · obtain ⟨b, o, rfl, hc⟩ := HR.out (by omega)
        have d0 := at_vI hc (k := k) (by rw [HN.out]; exact hlt)
        have d0 := (hG.trans hg).cell (World.block_lt_of_cell? w _ d0) d0
        by_cases hTk : isT (at_ l k)
        · have HTk := Lib.hid hTk
          clear hTk
          have hsucc : sortedTo l (k + 1) = (sortedTo l k && (decide (k = 0) || decide (at_ l (k - 1) ≤ at_ l k))) := rfl
          have hTn : Hid (∀ j, j < k + 1 → isT (at_ l j)) := fun j hj => by
            by_cases e : j = k
            · rw [e]; exact HTk.out
            · exact hT.out j (by omega)
          rcases Nat.eq_zero_or_pos k with rfl | hk0
          · have HS : Hid (sortedTo l (0 + 1) = true) := by show _ = _; rw [hsucc]; rfl
            have hs0 : sortedTo l 0 = true := rfl
            rw [hs0]
            clear hsucc hs0 hc
            rw [Nat.add_zero] at d0
            go_wp2_with fail
            refine (isTime_yes _ HTk.out _).mono ?_
            rintro e w2 ⟨rfl, rfl⟩
            go_wp2_with fail
            go_roundw
            case rel => exact ⟨0 + 1, by omega, by go_num, by rw [HS.out], hg, hTn⟩
            case measure => simp [intOf]; omega
          · have d1 := at_vI hc (k := k - 1) (by rw [HN.out]; omega)
            have d1 := (hG.trans hg).cell (World.block_lt_of_cell? w _ d1) d1
            have hkd : decide (k = 0) = false := by simp; omega
            rw [hkd, Bool.false_or] at hsucc
            have e1 : (k : Int) - 1 = ((k - 1 : Nat) : Int) := by omega
            have hkb : ((k : Int) == 0) = false := by simp <;> omega
            have HS := Lib.hid hsucc
            clear hsucc hkd hc
            generalize at_ l k = y at d0 HTk HS
            generalize at_ l (k - 1) = x at d1 HS
            generalize sortedTo l k = sk at HS ⊢
            cases sk
            · go_wp2_with fail
              refine (isTime_yes _ HTk.out _).mono ?_
              rintro e w2 ⟨rfl, rfl⟩
              go_wp2_with fail
              go_roundw
              case rel => exact ⟨k + 1, by omega, by go_num, by rw [HS.out]; rfl, hg, hTn⟩
              case measure => simp [intOf]; omega
            · go_wp2_with fail
              refine (isTime_yes _ HTk.out _).mono ?_
              rintro e w2 ⟨rfl, rfl⟩
              go_wp2_with fail
              go_roundw
              case rel => exact ⟨k + 1, by omega, by go_num, by rw [HS.out, Bool.true_and], hg, hTn⟩
              case measure => simp [intOf]; omega
        · have hR14 : R = (0, false, 14) := by
            rw [HA.out, if_pos]
            intro h
            exact hTk (h k hlt)
          subst hR14
          have HTk := Lib.hid hTk
          clear hTk hc HA
          go_wp2_with fail
          refine (isTime_no _ HTk.out _).mono ?_
          rintro e w2 ⟨rfl, rfl⟩
          go_wp2_with fail
          go_ret3
          exact ⟨rfl, hG.trans hg⟩
      · obtain rfl : k = n := by omega
        have hA2 := HA.out
        rw [if_neg (by intro h; exact h hT.out)] at hA2
        have hG2 := hG.trans hg
        have hL2 := hL.g hg
        have hV2 := hV.g hg
        clear hG hL hV hg HA
        by_cases hs : sortedTo l k = false
        · rw [if_pos hs] at hA2
          subst hA2
          rw [hs]
          clear hs
          go_wp2_with fail
          go_ret3
          exact ⟨rfl, hG2⟩
        · rw [if_neg hs] at hA2
          have hs : sortedTo l k = true := by simpa using hs
          rw [hs]
          clear hs
          have HA := Lib.hid hA2
          clear hA2
          obtain ⟨wo, rfl⟩ : ∃ wo : World, wo = wr := ⟨_, rfl⟩
          go_wp2_with fail
          go_loopw [56] (fun i wr => ∃ m : Nat, m ≤ k ∧ i = .int .i64 m ∧ G w wr ∧ Blk wr kV 33 #[.pointer (some ⟨kL, 0, none⟩)] ∧ Lim wr kL (decide (0 < m)) (tatTo l T m) (lastTo l m) T Tau ∧ Hid (∀ j, j < m → isEarly l T Tau j = false)) (fun i _ => k - (intOf i).toNat)
          case atStart => exact ⟨0, by omega, rfl, hG2, hV2, hL2, (fun j hj => by omega : ∀ j, j < 0 → isEarly l T Tau j = false)⟩
          case round =>
            clear hG2 hV2 hL2
            obtain ⟨m, hm, rfl, hg, hV, hL, hE⟩ := hrel
            by_cases hlt : m < k
            · obtain ⟨b, o, rfl, hc⟩ := HR.out (by omega)
              have d0 := at_vI hc (k := m) (by rw [HN.out]; exact hlt)
              have d0 := hg.cell (World.block_lt_of_cell? w _ d0) d0
              have hok := (tatTo_ok HV.out m (fun j hj => hT.out j (by omega)) hE.out m (Nat.le_refl _)).1
              have hTm := hT.out m hlt
              have HOK := Lib.hid hok
              have HTM := Lib.hid hTm
              clear hok hTm hc
              by_cases he : isEarly l T Tau m = true
              · have hR : R = ((m : Int), true, 0) := by
                  rw [HA.out, firstE_some hlt he hE.out]
                subst hR
                have HE2 := Lib.hid he
                clear he HA
                go_wp2_with fail
                refine (launch_no kV kL _ _ _ _ _ _ HOK.out HE2.out _ hL hV).mono ?_
                rintro e w2 ⟨rfl, g2⟩
                go_wp2_with fail
                go_ret3
                exact ⟨rfl, hg.trans g2⟩
              · have he : isEarly l T Tau m = false := by simpa using he
                have HE2 := Lib.hid he
                clear he
                go_wp2_with fail
                refine (launch_yes kV kL _ _ _ _ _ _ HOK.out HTM.out HE2.out _ hL hV).mono ?_
                rintro e w2 ⟨rfl, g2, hL2⟩
                go_wp2_with fail
                go_roundw
                case rel => exact ⟨m + 1, by omega, by go_num, hg.own g2 hkL2, hV.grown g2 (by simp; omega), (by rw [show decide (0 < m + 1) = true by simp]; exact hL2), (fun j hj => by
                  by_cases e : j = m
                  · rw [e]; exact HE2.out
                  · exact hE.out j (by omega) : ∀ j, j < m + 1 → isEarly l T Tau j = false)⟩
                case measure => simp [intOf]; omega
            · obtain rfl : m = k := by omega
              have hR : R = (0, false, 0) := by rw [HA.out, firstE_none hE.out]
              subst hR
              clear HA
              go_wp2_with fail
              go_ret3
              exact ⟨rfl, hg⟩
theorem fits_any (v : Value) (l : List Int) (T Tau : Int) (w : World) (hR : Rd w v (vI .i64 l)) :
    Calls Try.prog 17 #[.agg #[.int .i64 T, .int .i64 Tau], v] w fun e w' => e = .returned (.tuple #[.int .i64 (fitsAll l T Tau).1, .bool (fitsAll l T Tau).2.1, .int .i64 (fitsAll l T Tau).2.2]) ∧ G w w' := by
  by_cases hv : validL T Tau
  · exact fits_val v l T Tau hv w hR
  · have e : fitsAll l T Tau = (0, false, 16) := by unfold fitsAll; rw [if_pos hv]
    rw [e]
    exact fits_inv v l T Tau hv w
end Go.Proofs.Ytgookddningjpaa
