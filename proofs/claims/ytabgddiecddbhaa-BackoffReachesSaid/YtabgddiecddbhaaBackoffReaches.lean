/-
  BackoffReaches: from the attempt that Reaches returns on all waits are Cap, and before it none is; if there is none, Cap is not reached.
-/
import Derived.Test.YtabgddiecddbhaaTieR
import Derived.Test.YtabgddiecddbhaaBkX
set_option linter.unusedVariables false
set_option linter.unusedSimpArgs false
namespace Go.Proofs.Ytabgddiecddbhaa.lawBackoffReaches
open Go.ChangeShapes Go.WideShapes Go.ChangeAt Go.RowKit

theorem none_ {m : Nat} {B C J : Int} (hok : okR m B C J) (h : reachO m B C J = none) (i : Nat) (hi : i < m) : wAt B C i ≠ C := by
  have e : reachO m B C J = (List.range (m : Int).toNat).find? (fun k => wAt B C k == C) := if_pos hok
  rw [e, Int.toNat_natCast, List.find?_eq_none] at h
  simpa using h i (by simpa using hi)
theorem stay_ {m : Nat} {B C J : Int} (hok : okR m B C J) (k : Nat) (h : wAt B C k = C) : ∀ i, k ≤ i → wAt B C i = C
  | 0, hi => by obtain rfl : k = 0 := by omega
                exact h
  | i + 1, hi => by
    by_cases e : k = i + 1
    · rw [← e]; exact h
    · have := stay_ hok k h i (by omega)
      have h2 := wAt_bound hok i
      show min (wAt B C i + wAt B C i) C = C
      omega
theorem some_ {m k : Nat} {B C J : Int} (hok : okR m B C J) (h : reachO m B C J = some k) : k < m ∧ (∀ i, i < k → wAt B C i ≠ C) ∧ (∀ i, k ≤ i → i < m → wAt B C i = C) := by
  have e : reachO m B C J = (List.range (m : Int).toNat).find? (fun k => wAt B C k == C) := if_pos hok
  rw [e, Int.toNat_natCast, List.find?_range_eq_some] at h
  obtain ⟨h1, h2, h3⟩ := h
  exact ⟨by simpa using h2, fun i hi => by simpa using h3 i hi, fun i hi _ => stay_ hok k (by simpa using h1) i hi⟩
set_option maxRecDepth 4000 in
set_option maxHeartbeats 2000000 in
theorem walk {w : World} (M B C J : Int) :
    Calls Try.prog 9 #[.agg #[.int .i64 M, .int .i64 B, .int .i64 C, .int .i64 J]] w fun e w' => e = .returned (.bool true) ∧ G w w' := by
  by_cases hok : okR M B C J
  · obtain ⟨m, rfl⟩ : ∃ m : Nat, M = m := ⟨M.toNat, by unfold okR at hok; omega⟩
    have hm : m ≤ 20 := by unfold okR at hok; omega
    have HC : Hid (chkE m B C J = 0) := Lib.hid (if_pos hok)
    have HLN : Hid ((waitsL m B C J).length = m) := Lib.hid (by rw [waits_len_ok hok, Int.toNat_natCast])
    have HA : Hid (∀ k, k < m → at_ (waitsL m B C J) k = wAt B C k) := Lib.hid (fun k hk => (waits_at (by rw [HLN.out]; exact hk)).2.2)
    have HOK := Lib.hid hok
    clear hok
    rcases hO : reachO m B C J with _ | k
    · have HI : Hid (reachI m B C J = 0) := Lib.hid (by unfold reachI; rw [hO])
      have HB : Hid (reachB m B C J = false) := Lib.hid (by unfold reachB; rw [hO])
      have HO : Hid (∀ i, i < m → wAt B C i ≠ C) := Lib.hid (none_ HOK.out hO)
      clear hO
      go_enter Try.func9, Try.ntmps9
      have hX := Blk.new w 23 #[.int .i64 m, .int .i64 B, .int .i64 C, .int .i64 J]
      have gX : G w (w.alloc (.cells #[.int .i64 m, .int .i64 B, .int .i64 C, .int .i64 J] 23)) := (by repeat (first | exact G.refl _ | refine G.alloc ?_ _ | refine G.drewN ?_ _ | refine G.drew ?_ | refine G.trans ?_ (by assumption)))
      go_wp2_with fail
      refine (list_any m B C J _).mono ?_
      rintro e v1 ⟨v, rfl, own, g⟩
      rw [HC.out]
      have hR1 := Rd.of_own own
      clear own
      replace hX := hX.g g
      replace gX := gX.trans g
      clear g
      have x0 : v1.cell? ⟨w.heap.size, 0, none⟩ = some (.int .i64 m) := hX.cell 0
      have x1 : v1.cell? ⟨w.heap.size, 1, none⟩ = some (.int .i64 B) := hX.cell 1
      have x2 : v1.cell? ⟨w.heap.size, 2, none⟩ = some (.int .i64 C) := hX.cell 2
      have x3 : v1.cell? ⟨w.heap.size, 3, none⟩ = some (.int .i64 J) := hX.cell 3
      go_wp2_with fail
      refine (reaches_any m B C J _).mono ?_
      rintro e v2 ⟨rfl, g⟩
      rw [HC.out, HI.out, HB.out]
      replace hR1 := hR1.g g
      clear x0 x1 x2 x3
      replace hX := hX.g g
      replace gX := gX.trans g
      clear g
      have x0 : v2.cell? ⟨w.heap.size, 0, none⟩ = some (.int .i64 m) := hX.cell 0
      have x1 : v2.cell? ⟨w.heap.size, 1, none⟩ = some (.int .i64 B) := hX.cell 1
      have x2 : v2.cell? ⟨w.heap.size, 2, none⟩ = some (.int .i64 C) := hX.cell 2
      have x3 : v2.cell? ⟨w.heap.size, 3, none⟩ = some (.int .i64 J) := hX.cell 3
      obtain ⟨A, cap, rfl, hcap, hmax, hrd⟩ := hR1
      rw [vI_len, HLN.out] at hcap hrd
      rw [vI_len, HLN.out]
      have HR : Hid (∀ k, k < m → ∃ b o, A = some ⟨b, o, none⟩ ∧ v2.cell? ⟨b, o + k, none⟩ = some (.int .i64 (wAt B C k))) := Lib.hid (fun k hk => by
        obtain ⟨b, o, e, hc⟩ := hrd (by omega)
        exact ⟨b, o, e, by rw [← HA.out k hk]; exact at_vQ hc (by rw [HLN.out]; exact hk)⟩)
      clear hrd HLN HA
      go_wp2_with fail
      go_loopw [8] (fun iv wr => ∃ i : Nat, i ≤ m ∧ iv = .int .i64 i ∧ G v2 wr) (fun iv _ => m - (intOf iv).toNat)
      case atStart => exact ⟨0, by omega, rfl, G.refl _⟩
      case round =>
        obtain ⟨i, him, rfl, hg⟩ := hrel
        have hX2 := hX.g hg
        clear x0 x1 x2 x3
        have x2 : wr.cell? ⟨w.heap.size, 2, none⟩ = some (.int .i64 C) := hX2.cell 2
        by_cases hlt : i < m
        · obtain ⟨b, o, rfl, d0⟩ := HR.out i hlt
          have d0 := hg.cell (World.block_lt_of_cell? v2 _ d0) d0
          have hil : (i : Int) < m := by omega
          have hne := HO.out i hlt
          have h1 : (wAt B C i == C) = false := by simpa using hne
          generalize wAt B C i = x at *
          clear hne
          go_wp2_with fail
          go_quiet (fail)
          go_wp2_with fail
          go_roundw
          case rel => exact ⟨i + 1, by omega, by go_num, hg.drewN _⟩
          case measure => simp [intOf]; omega
        · obtain rfl : i = m := by omega
          go_wp2_with fail
          refine (works_any _).mono ?_
          rintro e v5 ⟨rfl, g5⟩
          go_wp2_with fail
          go_ret
          exact ⟨rfl, gX.trans (hg.trans g5)⟩
    · have HI : Hid (reachI m B C J = (k : Int) + 1) := Lib.hid (by unfold reachI; rw [hO])
      have HB : Hid (reachB m B C J = true) := Lib.hid (by unfold reachB; rw [hO])
      have hkm : k < m := (some_ HOK.out hO).1
      have HO : Hid ((∀ i, i < k → wAt B C i ≠ C) ∧ (∀ i, k ≤ i → i < m → wAt B C i = C)) := Lib.hid (some_ HOK.out hO).2
      clear hO
      go_enter Try.func9, Try.ntmps9
      have hX := Blk.new w 23 #[.int .i64 m, .int .i64 B, .int .i64 C, .int .i64 J]
      have gX : G w (w.alloc (.cells #[.int .i64 m, .int .i64 B, .int .i64 C, .int .i64 J] 23)) := (by repeat (first | exact G.refl _ | refine G.alloc ?_ _ | refine G.drewN ?_ _ | refine G.drew ?_ | refine G.trans ?_ (by assumption)))
      go_wp2_with fail
      refine (list_any m B C J _).mono ?_
      rintro e v1 ⟨v, rfl, own, g⟩
      rw [HC.out]
      have hR1 := Rd.of_own own
      clear own
      replace hX := hX.g g
      replace gX := gX.trans g
      clear g
      have x0 : v1.cell? ⟨w.heap.size, 0, none⟩ = some (.int .i64 m) := hX.cell 0
      have x1 : v1.cell? ⟨w.heap.size, 1, none⟩ = some (.int .i64 B) := hX.cell 1
      have x2 : v1.cell? ⟨w.heap.size, 2, none⟩ = some (.int .i64 C) := hX.cell 2
      have x3 : v1.cell? ⟨w.heap.size, 3, none⟩ = some (.int .i64 J) := hX.cell 3
      go_wp2_with fail
      refine (reaches_any m B C J _).mono ?_
      rintro e v2 ⟨rfl, g⟩
      rw [HC.out, HI.out, HB.out]
      replace hR1 := hR1.g g
      clear x0 x1 x2 x3
      replace hX := hX.g g
      replace gX := gX.trans g
      clear g
      have x0 : v2.cell? ⟨w.heap.size, 0, none⟩ = some (.int .i64 m) := hX.cell 0
      have x1 : v2.cell? ⟨w.heap.size, 1, none⟩ = some (.int .i64 B) := hX.cell 1
      have x2 : v2.cell? ⟨w.heap.size, 2, none⟩ = some (.int .i64 C) := hX.cell 2
      have x3 : v2.cell? ⟨w.heap.size, 3, none⟩ = some (.int .i64 J) := hX.cell 3
      obtain ⟨A, cap, rfl, hcap, hmax, hrd⟩ := hR1
      rw [vI_len, HLN.out] at hcap hrd
      rw [vI_len, HLN.out]
      have HR : Hid (∀ k, k < m → ∃ b o, A = some ⟨b, o, none⟩ ∧ v2.cell? ⟨b, o + k, none⟩ = some (.int .i64 (wAt B C k))) := Lib.hid (fun k hk => by
        obtain ⟨b, o, e, hc⟩ := hrd (by omega)
        exact ⟨b, o, e, by rw [← HA.out k hk]; exact at_vQ hc (by rw [HLN.out]; exact hk)⟩)
      clear hrd HLN HA
      have p1 : decide ((k : Int) + 1 < 1) = false := by simp; omega
      have p2 : decide ((m : Int) < (k : Int) + 1) = false := by simp; omega
      have p3 : decide (m < k + 1) = false := by simp; omega
      have p4 : decide (m ≤ k) = false := by simp; omega
      go_wp2_with fail
      go_loopw [8] (fun iv wr => ∃ i : Nat, i ≤ m ∧ iv = .int .i64 i ∧ G v2 wr) (fun iv _ => m - (intOf iv).toNat)
      case atStart => exact ⟨0, by omega, rfl, G.refl _⟩
      case round =>
        obtain ⟨i, him, rfl, hg⟩ := hrel
        have hX2 := hX.g hg
        clear x0 x1 x2 x3
        have x2 : wr.cell? ⟨w.heap.size, 2, none⟩ = some (.int .i64 C) := hX2.cell 2
        by_cases hlt : i < m
        · obtain ⟨b, o, rfl, d0⟩ := HR.out i hlt
          have d0 := hg.cell (World.block_lt_of_cell? v2 _ d0) d0
          have hil : (i : Int) < m := by omega
          by_cases hik : i < k
          · have hne := HO.out.1 i hik
            have h1 : (wAt B C i == C) = false := by simpa using hne
            have h2 : decide ((k : Int) + 1 ≤ (i : Int) + 1) = false := by simp; omega
            have h3 : decide (k ≤ i) = false := by simp; omega
            generalize wAt B C i = x at *
            clear hne
            go_wp2_with fail
            go_quiet (fail)
            go_wp2_with fail
            go_roundw
            case rel => exact ⟨i + 1, by omega, by go_num, hg.drewN _⟩
            case measure => simp [intOf]; omega
          · have he := HO.out.2 i (by omega) hlt
            rw [he] at d0
            have h2 : decide ((k : Int) + 1 ≤ (i : Int) + 1) = true := by simp; omega
            have h3 : decide (k ≤ i) = true := by simp; omega
            clear he
            go_wp2_with fail
            go_quiet (fail)
            go_wp2_with fail
            go_roundw
            case rel => exact ⟨i + 1, by omega, by go_num, hg.drewN _⟩
            case measure => simp [intOf]; omega
        · obtain rfl : i = m := by omega
          go_wp2_with fail
          refine (works_any _).mono ?_
          rintro e v5 ⟨rfl, g5⟩
          go_wp2_with fail
          go_ret
          exact ⟨rfl, gX.trans (hg.trans g5)⟩
  · have HC : Hid (chkE M B C J = 16) := Lib.hid (if_neg hok)
    have HL : Hid (waitsL M B C J = []) := Lib.hid (if_neg hok)
    clear hok
    go_enter Try.func9, Try.ntmps9
    have hX := Blk.new w 23 #[.int .i64 M, .int .i64 B, .int .i64 C, .int .i64 J]
    have gX : G w (w.alloc (.cells #[.int .i64 M, .int .i64 B, .int .i64 C, .int .i64 J] 23)) := (by repeat (first | exact G.refl _ | refine G.alloc ?_ _ | refine G.drewN ?_ _ | refine G.drew ?_ | refine G.trans ?_ (by assumption)))
    go_wp2_with fail
    refine (list_any M B C J _).mono ?_
    rintro e v1 ⟨v, rfl, own, g⟩
    rw [HC.out]
    rw [HL.out] at own
    have hR1 := Rd.of_own own
    clear own
    replace hX := hX.g g
    replace gX := gX.trans g
    clear g
    have x0 : v1.cell? ⟨w.heap.size, 0, none⟩ = some (.int .i64 M) := hX.cell 0
    have x1 : v1.cell? ⟨w.heap.size, 1, none⟩ = some (.int .i64 B) := hX.cell 1
    have x2 : v1.cell? ⟨w.heap.size, 2, none⟩ = some (.int .i64 C) := hX.cell 2
    have x3 : v1.cell? ⟨w.heap.size, 3, none⟩ = some (.int .i64 J) := hX.cell 3
    have HO : Hid (reachI M B C J = 0 ∧ reachB M B C J = false) := Lib.hid (by unfold reachI reachB; rw [reachO_eq, HL.out]; exact ⟨rfl, rfl⟩)
    go_wp2_with fail
    refine (reaches_any M B C J _).mono ?_
    rintro e v2 ⟨rfl, g⟩
    rw [HC.out, HO.out.1, HO.out.2]
    clear x0 x1 x2 x3
    replace hX := hX.g g
    replace gX := gX.trans g
    clear g
    have x0 : v2.cell? ⟨w.heap.size, 0, none⟩ = some (.int .i64 M) := hX.cell 0
    have x1 : v2.cell? ⟨w.heap.size, 1, none⟩ = some (.int .i64 B) := hX.cell 1
    have x2 : v2.cell? ⟨w.heap.size, 2, none⟩ = some (.int .i64 C) := hX.cell 2
    have x3 : v2.cell? ⟨w.heap.size, 3, none⟩ = some (.int .i64 J) := hX.cell 3
    obtain ⟨A, cap, rfl, hcap, hmax, hrd⟩ := hR1
    go_wp2_with fail
    refine (works_any _).mono ?_
    rintro e v3 ⟨rfl, g⟩
    go_wp2_with fail
    go_ret
    exact ⟨rfl, gX.trans g⟩
set_option maxHeartbeats 2000000 in
theorem contract (H : Type) (enc : TypeId × Value → H) (W : World) (base : Nat) (args : Array Value) (ds gs : List (DataW H)) (before : List MemPlace)
    (hval : ∀ (j : Nat) t v, Try.f9.params[j]? = some t → args[j]? = some v → Value.okWide Try.prog W .any base t v)
    (hW : DataW.Whole enc Try.prog Try.f9.params.toList Rows.backoffReachesSpec.vars false W args.toList ds gs before) :
    Calls Try.prog 9 args W fun e W' => ∃ v, e = .returned v ∧ Rows.backoffReachesSpec.post enc Try.prog Try.f9 false true false false W args v W' := by
  have hW' := hW
  obtain ⟨p, q, hA0, hV, rfl, hfz, hnd⟩ := hW
  have hA : DataW.TrodAll enc Try.prog W 0 (fun _ => true) true Try.f9.params.toList args.toList ds p := hA0
  rw [Try.params9] at hA hval
  obtain ⟨v0, vs0, d0, ds0, p0, q0, hargs, rfl, rfl, h0, r0⟩ := trodAll_cons hA
  obtain ⟨rfl, rfl, rfl⟩ := trodAll_nil r0
  obtain rfl : args = #[v0] := by cases args; simp_all
  obtain ⟨a0, b0, c0, e0, rfl⟩ := open_retry (hval 0 23 v0 rfl rfl) h0
  refine (walk (w := W) a0 b0 c0 e0).mono fun e W' ⟨he, hg⟩ => ?_
  subst he
  exact ⟨_, rfl, law_post laidOut_ (by
    intro t ht
    rw [Try.params9] at ht
    simp at ht
    have ht2 : t = 23 := by omega
    rcases ht2 with rfl <;> exact ⟨by kernel_rfl, by decide +kernel⟩) hW' rfl rfl (by kernel_rfl) Try.underlying4 hg⟩
set_option maxRecDepth 100000 in
theorem lifted (os : Os) (started : os.Started) (H : Type) (enc : TypeId × Value → H) :
    ReturnsInHanded {} Try.checked os 9 .any (Rows.backoffReachesSpec.pre6 enc Try.prog Try.f9 Rows.backoffReachesRow.domain false) (Rows.backoffReachesSpec.post enc Try.prog Try.f9 false true false false) := by
  refine returnsInHanded_of_change (C := Try.checked) own_ started (by kernel_rfl) Try.func9
    (ChangeSpec.witness6 (enc := enc) (C := Try.checked) false ⟨#[], #[.agg #[.int .i64 0, .int .i64 0, .int .i64 0, .int .i64 0]], []⟩ 8 (by kernel_rfl) (by kernel_rfl) (by kernel_rfl) (by kernel_rfl)) ?_
  intro W base args ds gs before hval hW _ _
  exact contract H enc W base args ds gs before hval hW
theorem said : Rows.BackoffReachesSaid :=
  OpenClaim.holds_of_wide 9 Try.f9 rfl rfl rfl rfl rfl rfl rfl ⟨rfl, rfl, rfl, rfl, rfl⟩ rfl rfl rfl rfl rfl (by kernel_rfl) Try.func9 (by kernel_rfl)
    (of_decide_eq_true (by kernel_rfl)) (by unfold Func.isWrapper; first | (rw [if_pos (by decide +kernel)]; kernel_rfl) | (rw [if_neg (by decide +kernel)]; exact ⟨rfl, rfl⟩))
    (fun os started H enc _ => lifted os started H enc)
#print axioms said
end Go.Proofs.Ytabgddiecddbhaa.lawBackoffReaches
