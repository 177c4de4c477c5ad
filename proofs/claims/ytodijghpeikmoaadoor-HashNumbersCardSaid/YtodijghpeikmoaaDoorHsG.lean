/-
  Package hash and the document's side: the first error of names.
-/
import Derived.Test.YtodijghpeikmoaaDoorHsF
set_option linter.unusedVariables false
set_option linter.unusedSimpArgs false
namespace Go.Proofs.YtodijghpeikmoaaDoor
open Go.RowKit

/-- the values of a list of texts -/
def vS (l : List ByteArray) : List Value := l.map Value.string
theorem vS_len (l : List ByteArray) : (vS l).length = l.length := by simp [vS]
theorem vS_get {l : List ByteArray} {j : Nat} (h : j < l.length) : (vS l)[j]? = some (.string (l[j]?.getD ByteArray.empty)) := by
  simp [vS, h]
/-- texts that the walk can hold -/
def okS (l : List ByteArray) : Prop := ∀ j : Nat, (l[j]?.getD ByteArray.empty).size < 9223372036854775807
def nmsAll (l : List ByteArray) : Bool := l.all nmB
def chkH (l : List ByteArray) : Int := if 64 < l.length then 12 else if nmsAll l = true then 0 else 15
theorem nms_take (l : List ByteArray) {k : Nat} (hk : k < l.length) : nmsAll (l.take (k + 1)) = (nmsAll (l.take k) && nmB (l[k]?.getD ByteArray.empty)) := by
  unfold nmsAll
  rw [List.take_add_one, List.all_append, List.getElem?_eq_getElem hk]
  simp
theorem nms_no (l : List ByteArray) {k : Nat} (hk : k < l.length) (h : nmB (l[k]?.getD ByteArray.empty) = false) : nmsAll l = false := by
  unfold nmsAll
  rw [List.all_eq_false]
  refine ⟨l[k], List.getElem_mem hk, ?_⟩
  rw [List.getElem?_eq_getElem hk] at h
  simpa using h
set_option maxHeartbeats 1000000 in
theorem hcheck_any (l : List ByteArray) (v : Value) (w : World) (hv : Rd w v (vS l)) :
    Calls Tryd.prog 30 #[v] w fun e w' => e = .returned (.int .i64 (chkH l)) ∧ G w w' := by
  obtain ⟨A, c, rfl, hc, hm, hr⟩ := hv
  rw [vS_len] at *
  by_cases hbig : 64 < l.length
  · have HB : Hid (chkH l = 12) := Lib.hid (if_pos hbig)
    rw [HB.out]
    clear hr
    go_enter Tryd.func30, Tryd.ntmps30
    go_wp2_with fail
    go_ret
    exact ⟨rfl, (by repeat (first | exact G.refl _ | refine G.alloc ?_ _ | refine G.drewN ?_ _ | refine G.drew ?_ | refine G.trans ?_ (by assumption)))⟩
  · have HR : Hid (∀ k, k < l.length → ∃ b o, A = some ⟨b, o, none⟩ ∧ w.cell? ⟨b, o + k, none⟩ = some (.string (l[k]?.getD ByteArray.empty))) := Lib.hid (fun k hk => by
      obtain ⟨b, o, e, h⟩ := hr (by omega)
      exact ⟨b, o, e, h k _ (vS_get hk)⟩)
    have HC0 : Hid (nmsAll l = true → chkH l = 0) := Lib.hid (fun h => by unfold chkH; rw [if_neg hbig, if_pos h])
    have HC1 : Hid (nmsAll l = false → chkH l = 15) := Lib.hid (fun h => by unfold chkH; rw [if_neg hbig, if_neg (by rw [h]; simp)])
    clear hr
    go_enter Tryd.func30, Tryd.ntmps30
    go_wp2_with fail
    go_loopw [10] (fun iv wr => ∃ k : Nat, k ≤ l.length ∧ iv = .int .i64 k ∧ nmsAll (l.take k) = true ∧ G w wr) (fun iv _ => l.length - (intOf iv).toNat)
    case atStart => exact ⟨0, by omega, rfl, rfl, G.refl _⟩
    case round =>
      obtain ⟨k, hk, rfl, ha, hg⟩ := hrel
      by_cases hlt : k < l.length
      · have hki : (k : Int) < l.length := by omega
        obtain ⟨b, o, rfl, hcell⟩ := HR.out k hlt
        have d0 := hg.cell (World.block_lt_of_cell? w _ hcell) hcell
        have HS := Lib.hid (nms_take l hlt)
        have HN := Lib.hid (nms_no l hlt)
        clear hcell
        generalize l[k]?.getD ByteArray.empty = s at *
        go_wp2_with fail
        go_at_call 39
        refine (name_any s _).mono ?_
        rintro e w1 ⟨rfl, g1⟩
        cases hn : nmB s with
        | true =>
          have HA : Hid (nmsAll (l.take (k + 1)) = true) := Lib.hid (by rw [HS.out, ha, hn]; rfl)
          clear HS HN ha hn
          go_wp2_with fail
          go_roundw
          case rel => exact ⟨k + 1, by omega, by go_num, HA.out, (by repeat (first | exact G.refl _ | refine G.alloc ?_ _ | refine G.drewN ?_ _ | refine G.drew ?_ | refine G.trans ?_ (by assumption)))⟩
          case measure => simp [intOf]; omega
        | false =>
          have HA := Lib.hid (HC1.out (HN.out hn))
          clear HS HN ha hn
          go_wp2_with fail
          go_ret
          exact ⟨by rw [HA.out]; rfl, (by repeat (first | exact G.refl _ | refine G.alloc ?_ _ | refine G.drewN ?_ _ | refine G.drew ?_ | refine G.trans ?_ (by assumption)))⟩
      · obtain rfl : k = l.length := by omega
        have HA : Hid (chkH l = 0) := Lib.hid (HC0.out (by rwa [List.take_length] at ha))
        clear ha
        go_wp2_with fail
        go_ret
        exact ⟨by rw [HA.out]; rfl, (by repeat (first | exact G.refl _ | refine G.alloc ?_ _ | refine G.drewN ?_ _ | refine G.drew ?_ | refine G.trans ?_ (by assumption)))⟩
set_option maxHeartbeats 1000000 in
theorem rnames_any (l : List ByteArray) (v : Value) (w : World) (hv : Rd w v (vS l)) (hok : okS l) :
    Calls Tryd.prog 32 #[v] w fun e w' => e = .returned (.int .i64 (chkH l)) ∧ G w w' := by
  obtain ⟨A, c, rfl, hc, hm, hr⟩ := hv
  rw [vS_len] at *
  by_cases hbig : 64 < l.length
  · have HB : Hid (chkH l = 12) := Lib.hid (if_pos hbig)
    rw [HB.out]
    clear hr
    go_enter Tryd.func32, Tryd.ntmps32
    go_wp2_with fail
    go_ret
    exact ⟨rfl, (by repeat (first | exact G.refl _ | refine G.alloc ?_ _ | refine G.drewN ?_ _ | refine G.drew ?_ | refine G.trans ?_ (by assumption)))⟩
  · have HR : Hid (∀ k, k < l.length → ∃ b o, A = some ⟨b, o, none⟩ ∧ w.cell? ⟨b, o + k, none⟩ = some (.string (l[k]?.getD ByteArray.empty))) := Lib.hid (fun k hk => by
      obtain ⟨b, o, e, h⟩ := hr (by omega)
      exact ⟨b, o, e, h k _ (vS_get hk)⟩)
    have HC0 : Hid (nmsAll l = true → chkH l = 0) := Lib.hid (fun h => by unfold chkH; rw [if_neg hbig, if_pos h])
    have HC1 : Hid (nmsAll l = false → chkH l = 15) := Lib.hid (fun h => by unfold chkH; rw [if_neg hbig, if_neg (by rw [h]; simp)])
    have HK := Lib.hid hok
    clear hr hok
    go_enter Tryd.func32, Tryd.ntmps32
    go_wp2_with fail
    go_loopw [3] (fun iv wr => ∃ k : Nat, k ≤ l.length ∧ iv = .int .i64 k ∧ nmsAll (l.take k) = true ∧ G w wr) (fun iv _ => l.length - (intOf iv).toNat)
    case atStart => exact ⟨0, by omega, rfl, rfl, G.refl _⟩
    case round =>
      obtain ⟨k, hk, rfl, ha, hg⟩ := hrel
      by_cases hlt : k < l.length
      · have hki : (k : Int) < l.length := by omega
        obtain ⟨b, o, rfl, hcell⟩ := HR.out k hlt
        have d0 := hg.cell (World.block_lt_of_cell? w _ hcell) hcell
        have HS := Lib.hid (nms_take l hlt)
        have HN := Lib.hid (nms_no l hlt)
        have HZ := Lib.hid (HK.out k)
        clear hcell
        generalize l[k]?.getD ByteArray.empty = s at *
        go_wp2_with fail
        go_at_call 41
        refine (rname_any s HZ.out _).mono ?_
        rintro e w1 ⟨rfl, g1⟩
        cases hn : nmB s with
        | true =>
          have HA : Hid (nmsAll (l.take (k + 1)) = true) := Lib.hid (by rw [HS.out, ha, hn]; rfl)
          clear HS HN ha hn
          go_wp2_with fail
          go_roundw
          case rel => exact ⟨k + 1, by omega, by go_num, HA.out, (by repeat (first | exact G.refl _ | refine G.alloc ?_ _ | refine G.drewN ?_ _ | refine G.drew ?_ | refine G.trans ?_ (by assumption)))⟩
          case measure => simp [intOf]; omega
        | false =>
          have HA := Lib.hid (HC1.out (HN.out hn))
          clear HS HN ha hn
          go_wp2_with fail
          go_ret
          exact ⟨by rw [HA.out]; rfl, (by repeat (first | exact G.refl _ | refine G.alloc ?_ _ | refine G.drewN ?_ _ | refine G.drew ?_ | refine G.trans ?_ (by assumption)))⟩
      · obtain rfl : k = l.length := by omega
        have HA : Hid (chkH l = 0) := Lib.hid (HC0.out (by rwa [List.take_length] at ha))
        clear ha
        go_wp2_with fail
        go_ret
        exact ⟨by rw [HA.out]; rfl, (by repeat (first | exact G.refl _ | refine G.alloc ?_ _ | refine G.drewN ?_ _ | refine G.drew ?_ | refine G.trans ?_ (by assumption)))⟩
end Go.Proofs.YtodijghpeikmoaaDoor
