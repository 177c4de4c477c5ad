/-
  Names: lex.Name, the document's Name; the first error of a list of names.
-/
import Derived.Test.YtahjiiigpndaeaaDoorHsE
set_option linter.unusedVariables false
set_option linter.unusedSimpArgs false
namespace Go.Proofs.YtahjiiigpndaeaaDoor
open Go.RowKit

/-- a byte that a name may have -/
def nmLetter (c : Int) : Prop := (97 ≤ c ∧ c ≤ 122) ∨ (65 ≤ c ∧ c ≤ 90)
def nmRest (c : Int) : Prop := (48 ≤ c ∧ c ≤ 57) ∨ c = 45 ∨ c = 95
instance (c : Int) : Decidable (nmLetter c) := by unfold nmLetter; infer_instance
instance (c : Int) : Decidable (nmRest c) := by unfold nmRest; infer_instance
def nmc (c : Int) : Bool := decide (nmLetter c ∨ nmRest c)
def nmAll (l : List Int) : Bool := l.all nmc
def nmB (s : ByteArray) : Bool := decide (0 < s.size ∧ s.size ≤ 24) && nmAll (bs s)
theorem or32_nat : ∀ n : Fin 256, (97 ≤ bits BinOp.or IntKind.u8 (n.val : Int) 32 ∧ bits BinOp.or IntKind.u8 (n.val : Int) 32 ≤ 122) ↔ nmLetter (n.val : Int) := by decide +kernel
theorem or32 (c : Int) (h0 : 0 ≤ c) (h1 : c < 256) : (97 ≤ bits BinOp.or IntKind.u8 c 32 ∧ bits BinOp.or IntKind.u8 c 32 ≤ 122) ↔ nmLetter c := by
  have := or32_nat ⟨c.toNat, by omega⟩
  simpa [Int.toNat_of_nonneg h0] using this
theorem nmAll_take (l : List Int) {k : Nat} (hk : k < l.length) : nmAll (l.take (k + 1)) = (nmAll (l.take k) && nmc (at_ l k)) := by
  unfold nmAll at_
  rw [List.take_add_one, List.all_append, List.getElem?_eq_getElem hk]
  simp
theorem nmAll_no (l : List Int) {k : Nat} (hk : k < l.length) (h : nmc (at_ l k) = false) : nmAll l = false := by
  unfold nmAll
  rw [List.all_eq_false]
  refine ⟨l[k], List.getElem_mem hk, ?_⟩
  unfold at_ at h
  rw [List.getElem?_eq_getElem hk] at h
  simpa using h
theorem nmAll_all (s : ByteArray) : nmAll ((bs s).take s.size) = nmAll (bs s) := by rw [← bs_len, List.take_length]
theorem nm_empty (s : ByteArray) : s.toList.isEmpty = decide (s.size = 0) := by
  rw [ByteArray.toList_eq, ← ByteArray.size_data]
  cases h : s.data.toList with
  | nil => have : s.data.size = 0 := by rw [← Array.length_toList, h]; rfl
           rw [this]; rfl
  | cons a l => have : s.data.size = l.length + 1 := by rw [← Array.length_toList, h]; rfl
                rw [this]; simp
set_option maxHeartbeats 1000000 in
theorem name_any (s : ByteArray) (w : World) :
    Calls Tryd.prog 41 #[.string s] w fun e w' => e = .returned (.bool (nmB s)) ∧ G w w' := by
  by_cases hs : 0 < s.size ∧ s.size ≤ 24
  · have HB : Hid (nmB s = nmAll (bs s)) := Lib.hid (by unfold nmB; rw [decide_eq_true hs, Bool.true_and])
    obtain ⟨hs0, hs1⟩ := hs
    rw [HB.out]
    have HE : s.toList.isEmpty = false := by rw [nm_empty]; exact decide_eq_false (by omega)
    go_enter Tryd.func41, Tryd.ntmps41
    go_wp2_with fail
    go_loopw [15] (fun iv wr => ∃ k : Nat, k ≤ s.size ∧ iv = .int .i64 k ∧ nmAll ((bs s).take k) = true ∧ G w wr) (fun iv _ => s.size - (intOf iv).toNat)
    case atStart => exact ⟨0, by omega, rfl, rfl, G.refl _⟩
    case round =>
      obtain ⟨k, hk, rfl, ha, hg⟩ := hrel
      by_cases hlt : k < s.size
      · have hki : (k : Int) < s.size := by omega
        have ht := bs_at hlt
        obtain ⟨d0, d1⟩ := bs_bd s k
        have HS := Lib.hid (nmAll_take (bs s) (k := k) (by rw [bs_len]; exact hlt))
        have HN := Lib.hid (nmAll_no (bs s) (k := k) (by rw [bs_len]; exact hlt))
        have HL : Hid ((97 ≤ bits BinOp.or IntKind.u8 (at_ (bs s) k) 32 ∧ bits BinOp.or IntKind.u8 (at_ (bs s) k) 32 ≤ 122) ↔ nmLetter (at_ (bs s) k)) := Lib.hid (or32 _ d0 d1)
        by_cases hc : nmc (at_ (bs s) k) = true
        · have HA : Hid (nmAll ((bs s).take (k + 1)) = true) := Lib.hid (by rw [HS.out, ha, hc]; rfl)
          unfold nmc at hc
          have hc := of_decide_eq_true hc
          clear HS HN ha
          generalize at_ (bs s) k = c at *
          have hc : ((97 ≤ c ∧ c ≤ 122) ∨ (65 ≤ c ∧ c ≤ 90)) ∨ (48 ≤ c ∧ c ≤ 57) ∨ c = 45 ∨ c = 95 := hc
          rcases hc with hc | hc
          · obtain ⟨o0, o1⟩ := HL.out.2 hc
            clear HL
            obtain ⟨o, hoe⟩ : ∃ o, bits BinOp.or IntKind.u8 c 32 = o := ⟨_, rfl⟩
            rw [hoe] at o0 o1
            go_wp2_with fail
            go_roundw
            case rel => exact ⟨k + 1, by omega, by go_num, HA.out, (by repeat (first | exact G.refl _ | refine G.alloc ?_ _ | refine G.drewN ?_ _ | refine G.drew ?_ | refine G.trans ?_ (by assumption)))⟩
            case measure => simp [intOf]; omega
          · have ho : bits BinOp.or IntKind.u8 c 32 < 97 ∨ 122 < bits BinOp.or IntKind.u8 c 32 := by
              have h2 : ¬ nmLetter c := by unfold nmLetter; omega
              have h3 : ¬ (97 ≤ bits BinOp.or IntKind.u8 c 32 ∧ bits BinOp.or IntKind.u8 c 32 ≤ 122) := fun h => h2 (HL.out.1 h)
              omega
            clear HL
            obtain ⟨o, hoe⟩ : ∃ o, bits BinOp.or IntKind.u8 c 32 = o := ⟨_, rfl⟩
            rw [hoe] at ho
            rcases hc with hc | rfl | rfl <;> rcases ho with ho | ho
            all_goals (
              go_wp2_with fail
              go_roundw
              case rel => exact ⟨k + 1, by omega, by go_num, HA.out, (by repeat (first | exact G.refl _ | refine G.alloc ?_ _ | refine G.drewN ?_ _ | refine G.drew ?_ | refine G.trans ?_ (by assumption)))⟩
              case measure => simp [intOf]; omega)
        · have hcn : nmc (at_ (bs s) k) = false := by simpa using hc
          have HA := Lib.hid (HN.out hcn)
          unfold nmc at hcn
          have hcn := of_decide_eq_false hcn
          clear HS HN ha
          generalize at_ (bs s) k = c at *
          have hcn : ¬ (((97 ≤ c ∧ c ≤ 122) ∨ (65 ≤ c ∧ c ≤ 90)) ∨ (48 ≤ c ∧ c ≤ 57) ∨ c = 45 ∨ c = 95) := hcn
          have ho : bits BinOp.or IntKind.u8 c 32 < 97 ∨ 122 < bits BinOp.or IntKind.u8 c 32 := by
            have h2 : ¬ nmLetter c := by unfold nmLetter; omega
            have h3 : ¬ (97 ≤ bits BinOp.or IntKind.u8 c 32 ∧ bits BinOp.or IntKind.u8 c 32 ≤ 122) := fun h => h2 (HL.out.1 h)
            omega
          have hr : c < 45 ∨ (45 < c ∧ c < 48) ∨ (57 < c ∧ c < 95) ∨ 95 < c := by omega
          clear HL hcn hc
          obtain ⟨o, hoe⟩ : ∃ o, bits BinOp.or IntKind.u8 c 32 = o := ⟨_, rfl⟩
          rw [hoe] at ho
          rcases hr with hr | ⟨hr, hr2⟩ | ⟨hr, hr2⟩ | hr <;> rcases ho with ho | ho
          all_goals (
              go_wp2_with fail
              · go_ret
                exact ⟨by rw [HA.out]; rfl, (by repeat (first | exact G.refl _ | refine G.alloc ?_ _ | refine G.drewN ?_ _ | refine G.drew ?_ | refine G.trans ?_ (by assumption)))⟩
              · exfalso
                rename_i hz
                simp at hz
                omega)
      · obtain rfl : k = s.size := by omega
        have HA : Hid (nmAll (bs s) = true) := Lib.hid (by rw [← nmAll_all]; exact ha)
        go_wp2_with fail
        go_ret
        exact ⟨by rw [HA.out]; rfl, (by repeat (first | exact G.refl _ | refine G.alloc ?_ _ | refine G.drewN ?_ _ | refine G.drew ?_ | refine G.trans ?_ (by assumption)))⟩
  · have HB : Hid (nmB s = false) := Lib.hid (by unfold nmB; rw [decide_eq_false hs, Bool.false_and])
    rw [HB.out]
    by_cases hz : s.size = 0
    · have HE : s.toList.isEmpty = true := by rw [nm_empty]; exact decide_eq_true (by omega)
      go_enter Tryd.func41, Tryd.ntmps41
      go_wp2_with fail
      go_ret
      exact ⟨rfl, (by repeat (first | exact G.refl _ | refine G.alloc ?_ _ | refine G.drewN ?_ _ | refine G.drew ?_ | refine G.trans ?_ (by assumption)))⟩
    · have HE : s.toList.isEmpty = false := by rw [nm_empty]; exact decide_eq_false (by omega)
      have hs2 : 24 < s.size := by omega
      clear hs
      go_enter Tryd.func41, Tryd.ntmps41
      go_wp2_with fail
      go_ret
      exact ⟨rfl, (by repeat (first | exact G.refl _ | refine G.alloc ?_ _ | refine G.drewN ?_ _ | refine G.drew ?_ | refine G.trans ?_ (by assumption)))⟩
set_option maxHeartbeats 1000000 in
theorem rname_any (s : ByteArray) (hsz : s.size < 9223372036854775807) (w : World) :
    Calls Tryd.prog 44 #[.string s] w fun e w' => e = .returned (.bool (nmB s)) ∧ G w w' := by
  by_cases hs : 0 < s.size ∧ s.size ≤ 24
  · have HB : Hid (nmB s = nmAll (bs s)) := Lib.hid (by unfold nmB; rw [decide_eq_true hs, Bool.true_and])
    obtain ⟨hs0, hs1⟩ := hs
    rw [HB.out]
    go_enter Tryd.func44, Tryd.ntmps44
    go_wp2_with fail
    go_loopw [3] (fun iv wr => ∃ k : Nat, k ≤ s.size ∧ iv = .int .i64 k ∧ nmAll ((bs s).take k) = true ∧ G w wr) (fun iv _ => s.size - (intOf iv).toNat)
    case atStart => exact ⟨0, by omega, rfl, rfl, G.refl _⟩
    case round =>
      obtain ⟨k, hk, rfl, ha, hg⟩ := hrel
      by_cases hlt : k < s.size
      · have hki : (k : Int) < s.size := by omega
        have ht := bs_at hlt
        obtain ⟨d0, d1⟩ := bs_bd s k
        have HS := Lib.hid (nmAll_take (bs s) (k := k) (by rw [bs_len]; exact hlt))
        have HN := Lib.hid (nmAll_no (bs s) (k := k) (by rw [bs_len]; exact hlt))
        have HL : Hid ((97 ≤ bits BinOp.or IntKind.u8 (at_ (bs s) k) 32 ∧ bits BinOp.or IntKind.u8 (at_ (bs s) k) 32 ≤ 122) ↔ nmLetter (at_ (bs s) k)) := Lib.hid (or32 _ d0 d1)
        by_cases hc : nmc (at_ (bs s) k) = true
        · have HA : Hid (nmAll ((bs s).take (k + 1)) = true) := Lib.hid (by rw [HS.out, ha, hc]; rfl)
          unfold nmc at hc
          have hc := of_decide_eq_true hc
          clear HS HN ha
          generalize at_ (bs s) k = c at *
          clear HL
          have hc : ((97 ≤ c ∧ c ≤ 122) ∨ (65 ≤ c ∧ c ≤ 90)) ∨ (48 ≤ c ∧ c ≤ 57) ∨ c = 45 ∨ c = 95 := hc
          rcases hc with (⟨hc, hc2⟩ | ⟨hc, hc2⟩) | ⟨hc, hc2⟩ | rfl | rfl
          all_goals (
              go_wp2_with fail
              go_roundw
              case rel => exact ⟨k + 1, by omega, by go_num, HA.out, (by repeat (first | exact G.refl _ | refine G.alloc ?_ _ | refine G.drewN ?_ _ | refine G.drew ?_ | refine G.trans ?_ (by assumption)))⟩
              case measure => simp [intOf]; omega)
        · have hcn : nmc (at_ (bs s) k) = false := by simpa using hc
          have HA := Lib.hid (HN.out hcn)
          unfold nmc at hcn
          have hcn := of_decide_eq_false hcn
          clear HS HN ha
          generalize at_ (bs s) k = c at *
          have hcn : ¬ (((97 ≤ c ∧ c ≤ 122) ∨ (65 ≤ c ∧ c ≤ 90)) ∨ (48 ≤ c ∧ c ≤ 57) ∨ c = 45 ∨ c = 95) := hcn
          have hr : c < 45 ∨ (45 < c ∧ c < 48) ∨ (57 < c ∧ c < 65) ∨ (90 < c ∧ c < 95) ∨ (95 < c ∧ c < 97) ∨ 122 < c := by omega
          clear HL hcn hc
          rcases hr with hr | ⟨hr, hr2⟩ | ⟨hr, hr2⟩ | ⟨hr, hr2⟩ | ⟨hr, hr2⟩ | hr
          all_goals (
              go_wp2_with fail
              · go_ret
                exact ⟨by rw [HA.out]; rfl, (by repeat (first | exact G.refl _ | refine G.alloc ?_ _ | refine G.drewN ?_ _ | refine G.drew ?_ | refine G.trans ?_ (by assumption)))⟩
              · exfalso
                rename_i hz
                simp at hz
                omega)
      · obtain rfl : k = s.size := by omega
        have HA : Hid (nmAll (bs s) = true) := Lib.hid (by rw [← nmAll_all]; exact ha)
        go_wp2_with fail
        go_ret
        exact ⟨by rw [HA.out]; rfl, (by repeat (first | exact G.refl _ | refine G.alloc ?_ _ | refine G.drewN ?_ _ | refine G.drew ?_ | refine G.trans ?_ (by assumption)))⟩
  · have HB : Hid (nmB s = false) := Lib.hid (by unfold nmB; rw [decide_eq_false hs, Bool.false_and])
    rw [HB.out]
    go_enter Tryd.func44, Tryd.ntmps44
    go_wp2_with fail
    all_goals (go_ret; exact ⟨rfl, (by repeat (first | exact G.refl _ | refine G.alloc ?_ _ | refine G.drewN ?_ _ | refine G.drew ?_ | refine G.trans ?_ (by assumption)))⟩)
end Go.Proofs.YtahjiiigpndaeaaDoor
