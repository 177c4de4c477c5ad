/-
  Retries: policies of small numbers, with a bound on their greatest wait.
-/
import Derived.Test.YtanipfenioaigaaDoorRtX
set_option linter.unusedVariables false
set_option linter.unusedSimpArgs false
namespace Go.Proofs.YtanipfenioaigaaDoor
open Go.RowKit Go.Shelf

theorem aft_small {M B C J : Int} (a : Int) (s : ByteArray) (d k : Int) (hok : okR M B C J) (hC : C ≤ 131071) (hJ : J ≤ 65535) : 0 ≤ aft M B C J a s d k ∧ aft M B C J a s d k ≤ 196607 := by
  obtain ⟨-, j0, -⟩ := okR_bd hok
  have h1 : 0 ≤ waitI M B C J k ∧ waitI M B C J k ≤ C := by
    unfold waitI
    split
    · rename_i h
      have := wAt_bound h.1 (k - 1).toNat
      omega
    · have := wAt_bound hok 0
      omega
  have h2 : 0 ≤ jwV a s d k J ∧ jwV a s d k J ≤ 65535 := by
    unfold jwV
    split
    · have := jw_bd a s d k J j0
      omega
    · omega
  unfold aft
  omega
set_option maxHeartbeats 1000000 in
theorem made_ex2 (a b c e : Int) (ra : 0 ≤ a ∧ a ≤ 255) (rb : 0 ≤ b ∧ b ≤ 65535) (rc : 0 ≤ c ∧ c ≤ 65535) (re : 0 ≤ e ∧ e ≤ 65535) :
    ∃ M B C J : Int, okR M B C J ∧ (0 ≤ M ∧ M ≤ 20) ∧ (0 ≤ J ∧ J ≤ 65535) ∧ (0 ≤ C ∧ C ≤ 131071) ∧ ∀ w, Calls Tryd.prog 27 #[.agg #[.int .u8 a, .int .u16 b, .int .u16 c, .int .u16 e]] w fun e w' => e = .returned (.agg #[.int .i64 M, .int .i64 B, .int .i64 C, .int .i64 J]) ∧ G w w' := by
  obtain ⟨a0, a1⟩ := ra
  obtain ⟨b0, b1⟩ := rb
  obtain ⟨c0, c1⟩ := rc
  obtain ⟨e0, e1⟩ := re
  obtain ⟨m, hm⟩ : ∃ m, a.tmod 21 = m := ⟨_, rfl⟩
  have hm2 : a % 21 = m := by rw [← hm, Int.tmod_eq_emod_of_nonneg a0]
  have m0 : 0 ≤ m := by omega
  have m1 : m ≤ 20 := by omega
  have hw : IntKind.u8.wrap m = m := by rw [IntKind.wrap_u8]; omega
  clear hm2
  by_cases hz : m = 0
  · subst hz
    refine ⟨0, 0, 0, 0, .inl ⟨rfl, rfl, rfl, rfl⟩, ⟨by omega, by omega⟩, ⟨by omega, by omega⟩, ⟨by omega, by omega⟩, fun w => ?_⟩
    go_enter Tryd.func27, Tryd.ntmps27
    go_wp2_with fail
    refine bodyPost_ret (v := .agg #[.int .i64 0, .int .i64 0, .int .i64 0, .int .i64 0]) (by simp [results, Tryd.results27, go_sem]) rfl ⟨rfl, (by repeat (first | exact G.refl _ | refine G.alloc ?_ _ | refine G.drewN ?_ _ | refine G.drew ?_ | refine G.trans ?_ (by assumption)))⟩
  · refine ⟨m, 1 + b, 1 + b + c, e, .inr ⟨⟨by omega, by omega⟩, ⟨by omega, by omega, by omega⟩, ⟨by omega, by omega⟩⟩, ⟨by omega, by omega⟩, ⟨by omega, by omega⟩, ⟨by omega, by omega⟩, fun w => ?_⟩
    have hz2 : (m == 0) = false := by simpa using hz
    clear hz
    go_enter Tryd.func27, Tryd.ntmps27
    go_wp2_with fail
    refine bodyPost_ret (v := .agg #[.int .i64 m, .int .i64 (1 + b), .int .i64 (1 + b + c), .int .i64 e]) (by simp [results, Tryd.results27, go_sem]) rfl ⟨rfl, (by repeat (first | exact G.refl _ | refine G.alloc ?_ _ | refine G.drewN ?_ _ | refine G.drew ?_ | refine G.trans ?_ (by assumption)))⟩
end Go.Proofs.YtanipfenioaigaaDoor
