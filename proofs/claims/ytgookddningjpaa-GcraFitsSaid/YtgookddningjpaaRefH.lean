/-
  Contracts of package wakemanref23, further ones: early, wrong, Allows, Take.
-/
import Derived.Test.YtgookddningjpaaRefG
import Derived.Test.YtgookddningjpaaGcU
set_option linter.unusedVariables false
set_option linter.unusedSimpArgs false
namespace Go.Proofs.Ytgookddningjpaa
open Go.RowKit

set_option maxHeartbeats 1600000 in
theorem rearly_any (k : Nat) (som : Bool) (tat last T Tau now : Int) (ho : Okl tat last T Tau) (w : World) (hb : RLim w k som tat last T Tau) :
    Calls Try.prog 54 #[.pointer (some ⟨k, 0, none⟩), .int .i64 now] w fun e w' => e = .returned (.bool (earlyB som tat T Tau now)) ∧ G w w' := by
  have c1 : w.cell? ⟨k, 1, none⟩ = some (.int .i64 T) := hb.cell 1
  have c2 : w.cell? ⟨k, 2, none⟩ = some (.int .i64 Tau) := hb.cell 2
  have c3 : w.cell? ⟨k, 3, none⟩ = some (.bool som) := hb.cell 3
  have c4 : w.cell? ⟨k, 4, none⟩ = some (.int .i64 tat) := hb.cell 4
  obtain ⟨⟨t0, t1⟩, ⟨u0, u1⟩, ⟨a0, a1⟩, -⟩ := ho
  by_cases hT : 0 < T
  · cases som
    · go_enter Try.func54, Try.ntmps54
      go_wp2_with fail
      go_quiet (fail)
      go_wp2_with fail
      go_ret
      exact ⟨by simp [earlyB], (by repeat (first | exact G.refl _ | refine G.alloc ?_ _ | refine G.drewN ?_ _ | refine G.drew ?_ | refine G.trans ?_ (by assumption)))⟩
    · go_enter Try.func54, Try.ntmps54
      go_wp2_with fail
      go_quiet (fail)
      go_wp2_with fail
      go_ret
      exact ⟨by simp [earlyB, hT], (by repeat (first | exact G.refl _ | refine G.alloc ?_ _ | refine G.drewN ?_ _ | refine G.drew ?_ | refine G.trans ?_ (by assumption)))⟩
  · have hT' : decide (0 < T) = false := by simpa using hT
    go_enter Try.func54, Try.ntmps54
    go_wp2_with fail
    go_quiet (fail)
    go_wp2_with fail
    go_ret
    exact ⟨by simp only [earlyB, hT', Bool.false_and]; rfl, (by repeat (first | exact G.refl _ | refine G.alloc ?_ _ | refine G.drewN ?_ _ | refine G.drew ?_ | refine G.trans ?_ (by assumption)))⟩
set_option maxRecDepth 4000 in
set_option maxHeartbeats 1600000 in
theorem rwrong_any (k : Nat) (som : Bool) (tat last T Tau now : Int) (ho : Okl tat last T Tau) (w : World) (hb : RLim w k som tat last T Tau) :
    Calls Try.prog 51 #[.pointer (some ⟨k, 0, none⟩), .int .i64 now] w fun e w' => e = .returned (.int .i64 (checkE som tat last T Tau now)) ∧ G w w' := by
  have c3 : w.cell? ⟨k, 3, none⟩ = some (.bool som) := hb.cell 3
  have c5 : w.cell? ⟨k, 5, none⟩ = some (.int .i64 last) := hb.cell 5
  have HO := Lib.hid ho
  clear ho
  by_cases hn : isT now
  · have hE : checkE som tat last T Tau now = if som = true ∧ now < last then 8 else if earlyB som tat T Tau now = true then 9 else 0 := by
      unfold checkE; rw [if_neg (by simpa using hn)]
    rw [hE]
    clear hE
    obtain ⟨n0, n1⟩ := hn
    have d0 : decide (now < 0) = false := by simp; omega
    have d1 : decide (253402300799 < now) = false := by simp; omega
    cases som with
    | true =>
      by_cases hl : now < last
      · rw [if_pos ⟨rfl, hl⟩]
        go_enter Try.func51, Try.ntmps51
        go_wp2_with fail
        refine (rvalid_at k _ tat last T Tau _ hb).mono ?_
        rintro e w1 ⟨rfl, rfl⟩
        go_wp2_with fail
        go_ret
        exact ⟨rfl, (by repeat (first | exact G.refl _ | refine G.alloc ?_ _ | refine G.drewN ?_ _ | refine G.drew ?_ | refine G.trans ?_ (by assumption)))⟩
      · rw [if_neg (fun h => hl h.2)]
        have d2 : decide (now < last) = false := by simpa using hl
        clear hl
        by_cases he : earlyB true tat T Tau now = true
        · rw [if_pos he]
          have HEE := Lib.hid he
          clear he
          go_enter Try.func51, Try.ntmps51
          go_wp2_with fail
          refine (rvalid_at k _ tat last T Tau _ hb).mono ?_
          rintro e w1 ⟨rfl, rfl⟩
          go_wp2_with fail
          refine (rearly_any k true tat last T Tau now HO.out _ hb).mono ?_
          rintro e w2 ⟨rfl, g2⟩
          rw [HEE.out]
          go_wp2_with fail
          go_ret
          exact ⟨rfl, (by repeat (first | exact G.refl _ | refine G.alloc ?_ _ | refine G.drewN ?_ _ | refine G.drew ?_ | refine G.trans ?_ (by assumption)))⟩
        · rw [if_neg he]
          have he : earlyB true tat T Tau now = false := by simpa using he
          have HEE := Lib.hid he
          clear he
          go_enter Try.func51, Try.ntmps51
          go_wp2_with fail
          refine (rvalid_at k _ tat last T Tau _ hb).mono ?_
          rintro e w1 ⟨rfl, rfl⟩
          go_wp2_with fail
          refine (rearly_any k true tat last T Tau now HO.out _ hb).mono ?_
          rintro e w2 ⟨rfl, g2⟩
          rw [HEE.out]
          go_wp2_with fail
          go_ret
          exact ⟨rfl, (by repeat (first | exact G.refl _ | refine G.alloc ?_ _ | refine G.drewN ?_ _ | refine G.drew ?_ | refine G.trans ?_ (by assumption)))⟩
    | false =>
      rw [if_neg (by simp)]
      by_cases he : earlyB false tat T Tau now = true
      · rw [if_pos he]
        have HEE := Lib.hid he
        clear he
        go_enter Try.func51, Try.ntmps51
        go_wp2_with fail
        refine (rvalid_at k _ tat last T Tau _ hb).mono ?_
        rintro e w1 ⟨rfl, rfl⟩
        go_wp2_with fail
        refine (rearly_any k false tat last T Tau now HO.out _ hb).mono ?_
        rintro e w2 ⟨rfl, g2⟩
        rw [HEE.out]
        go_wp2_with fail
        go_ret
        exact ⟨rfl, (by repeat (first | exact G.refl _ | refine G.alloc ?_ _ | refine G.drewN ?_ _ | refine G.drew ?_ | refine G.trans ?_ (by assumption)))⟩
      · rw [if_neg he]
        have he : earlyB false tat T Tau now = false := by simpa using he
        have HEE := Lib.hid he
        clear he
        go_enter Try.func51, Try.ntmps51
        go_wp2_with fail
        refine (rvalid_at k _ tat last T Tau _ hb).mono ?_
        rintro e w1 ⟨rfl, rfl⟩
        go_wp2_with fail
        refine (rearly_any k false tat last T Tau now HO.out _ hb).mono ?_
        rintro e w2 ⟨rfl, g2⟩
        rw [HEE.out]
        go_wp2_with fail
        go_ret
        exact ⟨rfl, (by repeat (first | exact G.refl _ | refine G.alloc ?_ _ | refine G.drewN ?_ _ | refine G.drew ?_ | refine G.trans ?_ (by assumption)))⟩
  · have hE : checkE som tat last T Tau now = 14 := by unfold checkE; rw [if_pos hn]
    rw [hE]
    clear hE
    by_cases h0 : now < 0
    · clear hn
      go_enter Try.func51, Try.ntmps51
      go_wp2_with fail
      refine (rvalid_at k _ tat last T Tau _ hb).mono ?_
      rintro e w1 ⟨rfl, rfl⟩
      go_wp2_with fail
      go_ret
      exact ⟨rfl, (by repeat (first | exact G.refl _ | refine G.alloc ?_ _ | refine G.drewN ?_ _ | refine G.drew ?_ | refine G.trans ?_ (by assumption)))⟩
    · have d0 : decide (now < 0) = false := by simpa using h0
      have d1 : 253402300799 < now := by unfold isT at hn; omega
      clear hn h0
      go_enter Try.func51, Try.ntmps51
      go_wp2_with fail
      refine (rvalid_at k _ tat last T Tau _ hb).mono ?_
      rintro e w1 ⟨rfl, rfl⟩
      go_wp2_with fail
      go_ret
      exact ⟨rfl, (by repeat (first | exact G.refl _ | refine G.alloc ?_ _ | refine G.drewN ?_ _ | refine G.drew ?_ | refine G.trans ?_ (by assumption)))⟩
end Go.Proofs.Ytgookddningjpaa
