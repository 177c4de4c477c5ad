/-
  MixBelows: what a number stands for below n is smaller than n and the upper half of the product; a greater number stands for no smaller one; 0 stands for 0, the greatest for n - 1.
  Conditions: none beyond the row's own (the table of package mix as the program's text lays it).
-/
import Derived.Test.YtelilcpbckecbaaDoorTie27
import Derived.Test.YtelilcpbckecbaaDoorWorks27

set_option linter.unusedVariables false
set_option linter.unusedSimpArgs false
namespace Go.Proofs.YtelilcpbckecbaaDoor.lawMixBelows
open Go.ChangeShapes Go.WideShapes Go.ChangeAt Go.RowKit

theorem hiI_mono (x y n : Int) (h : x ≤ y) (hn : 0 ≤ n) : hiI x n ≤ hiI y n := by
  unfold hiI; exact Int.ediv_le_ediv (by decide) (Int.mul_le_mul_of_nonneg_right h hn)
theorem hiI_zero (n : Int) : hiI 0 n = 0 := by unfold hiI; rw [Int.zero_mul]; rfl
theorem hiI_top (n : Int) (h0 : 0 < n) (h1 : n < 18446744073709551616) : hiI 18446744073709551615 n = n - 1 := by unfold hiI; omega
set_option maxHeartbeats 2000000 in
theorem walk1 (u v n : Int) (u0 : 0 ≤ u) (u1 : u < 18446744073709551616) (v0 : 0 ≤ v) (v1 : v < 18446744073709551616) (n0 : 0 < n) (n1 : n < 18446744073709551616) (w : World) (ht : Tab w) :
    Calls Tryd.prog 4 #[.int .u64 u, .int .u64 v, .int .u64 n] w fun e w' => e = .returned (.bool true) ∧ G w w' := by
  have Z := Lib.hid (hiI_zero n)
  have T := Lib.hid (hiI_top n n0 n1)
  have hc : u < v ∨ v = u ∨ v < u := by omega
  rcases hc with hc | rfl | hc
  · skip
    have a1 := hiI_bd u n (by omega) (by omega) n0
    have a2 := hiI_bd v n (by omega) (by omega) n0
    have a3 := hiI_mono u v n (by omega) (by omega)
    have a4 := a1.1
    have a5 := a1.2
    have a6 := a2.1
    have a7 := a2.2
    clear a1 a2
    go_enter Tryd.func4, Tryd.ntmps4
    go_wp2_with fail
    refine (below_any u n (by omega) (by omega) n0 n1 _).mono ?_
    rintro e w1 ⟨rfl, rfl⟩
    go_wp2_with fail
    refine (below_any v n (by omega) (by omega) n0 n1 _).mono ?_
    rintro e w1 ⟨rfl, rfl⟩
    go_wp2_with fail
    refine (below_any 0 n (by omega) (by omega) n0 n1 _).mono ?_
    rintro e w1 ⟨rfl, rfl⟩
    rw [Z.out]
    go_wp2_with fail
    refine (below_any 18446744073709551615 n (by omega) (by omega) n0 n1 _).mono ?_
    rintro e w1 ⟨rfl, rfl⟩
    rw [T.out]
    go_wp2_with fail
    refine (mul64_any u n (by omega) (by omega) (by omega) n1 _).mono ?_
    rintro e w1 ⟨rfl, rfl⟩
    go_wp2_with fail
    refine (works_any _ ht).mono ?_
    rintro e w2 ⟨rfl, g2⟩
    go_wp2_with fail
    go_ret
    exact ⟨rfl, g2⟩
  · skip
    have a1 := hiI_bd v n (by omega) (by omega) n0
    have a2 := hiI_bd v n (by omega) (by omega) n0
    have a3 := hiI_mono v v n (by omega) (by omega)
    have a4 := a1.1
    have a5 := a1.2
    have a6 := a2.1
    have a7 := a2.2
    clear a1 a2
    go_enter Tryd.func4, Tryd.ntmps4
    go_wp2_with fail
    refine (below_any v n (by omega) (by omega) n0 n1 _).mono ?_
    rintro e w1 ⟨rfl, rfl⟩
    go_wp2_with fail
    refine (below_any v n (by omega) (by omega) n0 n1 _).mono ?_
    rintro e w1 ⟨rfl, rfl⟩
    go_wp2_with fail
    refine (below_any 0 n (by omega) (by omega) n0 n1 _).mono ?_
    rintro e w1 ⟨rfl, rfl⟩
    rw [Z.out]
    go_wp2_with fail
    refine (below_any 18446744073709551615 n (by omega) (by omega) n0 n1 _).mono ?_
    rintro e w1 ⟨rfl, rfl⟩
    rw [T.out]
    go_wp2_with fail
    refine (mul64_any v n (by omega) (by omega) (by omega) n1 _).mono ?_
    rintro e w1 ⟨rfl, rfl⟩
    go_wp2_with fail
    refine (works_any _ ht).mono ?_
    rintro e w2 ⟨rfl, g2⟩
    go_wp2_with fail
    go_ret
    exact ⟨rfl, g2⟩
  · skip
    have a1 := hiI_bd v n (by omega) (by omega) n0
    have a2 := hiI_bd u n (by omega) (by omega) n0
    have a3 := hiI_mono v u n (by omega) (by omega)
    have a4 := a1.1
    have a5 := a1.2
    have a6 := a2.1
    have a7 := a2.2
    clear a1 a2
    go_enter Tryd.func4, Tryd.ntmps4
    go_wp2_with fail
    refine (below_any v n (by omega) (by omega) n0 n1 _).mono ?_
    rintro e w1 ⟨rfl, rfl⟩
    go_wp2_with fail
    refine (below_any u n (by omega) (by omega) n0 n1 _).mono ?_
    rintro e w1 ⟨rfl, rfl⟩
    go_wp2_with fail
    refine (below_any 0 n (by omega) (by omega) n0 n1 _).mono ?_
    rintro e w1 ⟨rfl, rfl⟩
    rw [Z.out]
    go_wp2_with fail
    refine (below_any 18446744073709551615 n (by omega) (by omega) n0 n1 _).mono ?_
    rintro e w1 ⟨rfl, rfl⟩
    rw [T.out]
    go_wp2_with fail
    refine (mul64_any v n (by omega) (by omega) (by omega) n1 _).mono ?_
    rintro e w1 ⟨rfl, rfl⟩
    go_wp2_with fail
    refine (works_any _ ht).mono ?_
    rintro e w2 ⟨rfl, g2⟩
    go_wp2_with fail
    go_ret
    exact ⟨rfl, g2⟩
set_option maxHeartbeats 2000000 in
theorem walk0 (u v : Int) (u0 : 0 ≤ u) (u1 : u < 18446744073709551616) (v0 : 0 ≤ v) (v1 : v < 18446744073709551616) (w : World) (ht : Tab w) :
    Calls Tryd.prog 4 #[.int .u64 u, .int .u64 v, .int .u64 0] w fun e w' => e = .returned (.bool true) ∧ G w w' := by
  have hc : u < v ∨ v = u ∨ v < u := by omega
  rcases hc with hc | rfl | hc
  · skip
    go_enter Tryd.func4, Tryd.ntmps4
    go_wp2_with fail
    refine (below_zero u _).mono ?_
    rintro e w1 ⟨rfl, rfl⟩
    go_wp2_with fail
    refine (below_zero v _).mono ?_
    rintro e w1 ⟨rfl, rfl⟩
    go_wp2_with fail
    refine (works_any _ ht).mono ?_
    rintro e w2 ⟨rfl, g2⟩
    go_wp2_with fail
    go_ret
    exact ⟨rfl, g2⟩
  · skip
    go_enter Tryd.func4, Tryd.ntmps4
    go_wp2_with fail
    refine (below_zero v _).mono ?_
    rintro e w1 ⟨rfl, rfl⟩
    go_wp2_with fail
    refine (below_zero v _).mono ?_
    rintro e w1 ⟨rfl, rfl⟩
    go_wp2_with fail
    refine (works_any _ ht).mono ?_
    rintro e w2 ⟨rfl, g2⟩
    go_wp2_with fail
    go_ret
    exact ⟨rfl, g2⟩
  · skip
    go_enter Tryd.func4, Tryd.ntmps4
    go_wp2_with fail
    refine (below_zero v _).mono ?_
    rintro e w1 ⟨rfl, rfl⟩
    go_wp2_with fail
    refine (below_zero u _).mono ?_
    rintro e w1 ⟨rfl, rfl⟩
    go_wp2_with fail
    refine (works_any _ ht).mono ?_
    rintro e w2 ⟨rfl, g2⟩
    go_wp2_with fail
    go_ret
    exact ⟨rfl, g2⟩
theorem walk (u : Int) (u0 : 0 ≤ u) (u1 : u < 18446744073709551616) (v : Int) (v0 : 0 ≤ v) (v1 : v < 18446744073709551616) (n : Int) (n0 : 0 ≤ n) (n1 : n < 18446744073709551616) (w : World) (ht : Tab w) :
    Calls Tryd.prog 4 #[.int .u64 u, .int .u64 v, .int .u64 n] w fun e w' => e = .returned (.bool true) ∧ G w w' := by
  by_cases h : n = 0
  · subst h; exact walk0 u v u0 u1 v0 v1 w ht
  · exact walk1 u v n u0 u1 v0 v1 (by omega) n1 w ht

theorem contract (H : Type) (enc : TypeId × Value → H) (W : World) (base : Nat) (args : Array Value) (ds gs : List (DataW H)) (before : List MemPlace)
    (hval : ∀ (j : Nat) t v, Tryd.f4.params[j]? = some t → args[j]? = some v → Value.okWide Tryd.prog W .any base t v)
    (hW : DataW.Whole enc Tryd.prog Tryd.f4.params.toList Rows.mixBelowsSpec.vars false W args.toList ds gs before) (hL : laidMetH Tryd.prog Rows.mixBelowsRow.laid W) :
    Calls Tryd.prog 4 args W fun e W' => ∃ v, e = .returned v ∧ Rows.mixBelowsSpec.post enc Tryd.prog Tryd.f4 false true false false W args v W' := by
  have hW' := hW
  obtain ⟨p, q, hA0, hV, rfl, hfz, hnd⟩ := hW
  have hA : DataW.TrodAll enc Tryd.prog W 0 (fun _ => true) true Tryd.f4.params.toList args.toList ds p := hA0
  rw [Tryd.params4] at hA hval
  obtain ⟨v0, vs0, d0, ds0, p0, q0, hargs, rfl, rfl, h0, r0⟩ := trodAll_cons hA
  obtain ⟨v1, vs1, d1, ds1, p1, q1, rfl, rfl, rfl, h1, r1⟩ := trodAll_cons r0
  obtain ⟨v2, vs2, d2, ds2, p2, q2, rfl, rfl, rfl, h2, r2⟩ := trodAll_cons r1
  obtain ⟨rfl, rfl, rfl⟩ := trodAll_nil r2
  obtain rfl : args = #[v0, v1, v2] := by cases args; simp_all
  obtain ⟨a0, rfl, rfl, rfl, w0⟩ := open_int Tryd.underlying22 (hval 0 22 v0 rfl rfl) h0
  simp [Lit.wf, IntKind.min, IntKind.max, IntKind.bits, IntKind.signed] at w0
  obtain ⟨a1, rfl, rfl, rfl, w1⟩ := open_int Tryd.underlying22 (hval 1 22 v1 rfl rfl) h1
  simp [Lit.wf, IntKind.min, IntKind.max, IntKind.bits, IntKind.signed] at w1
  obtain ⟨a2, rfl, rfl, rfl, w2⟩ := open_int Tryd.underlying22 (hval 2 22 v2 rfl rfl) h2
  simp [Lit.wf, IntKind.min, IntKind.max, IntKind.bits, IntKind.signed] at w2
  refine (walk a0 (by omega) (by omega) a1 (by omega) (by omega) a2 (by omega) (by omega) W (tab_of hL)).mono fun e W' ⟨he, hg⟩ => ?_
  subst he
  exact ⟨_, rfl, law_post laidOut_ (by intro t ht; rw [Tryd.params4] at ht; simp at ht; rcases ht with rfl <;> exact ⟨by kernel_rfl, by decide +kernel⟩) hW' rfl rfl (by kernel_rfl) Tryd.underlying4 hg⟩
theorem laid_met (os : Os) : laidMet Tryd.prog Rows.mixBelowsRow.laid ((laidWorld os).forCall (fun _ _ => 0) ⟨#[], #[.int .u64 0, .int .u64 0, .int .u64 0], []⟩).memory :=
  laidMet_of_run' 8 (by kernel_rfl) (by kernel_rfl)
theorem reads (os : Os) {H : Type} (enc : TypeId × Value → H) : ∃ places, DataW.whole enc Tryd.prog ((laidWorld os).forCall (fun _ _ => 0) ⟨#[], #[.int .u64 0, .int .u64 0, .int .u64 0], []⟩).memory Tryd.f4.params.toList Rows.mixBelowsSpec.vars false (#[.int .u64 0, .int .u64 0, .int .u64 0] : Array Value).toList 8 = some ([.lit (.int .u64 0), .lit (.int .u64 0), .lit (.int .u64 0)], [], places) :=
  ⟨[], by kernel_rfl⟩
set_option maxRecDepth 100000 in
theorem lifted (os : Os) (started : os.Started) (H : Type) (enc : TypeId × Value → H) (F : Stop.Interp) :
    ReturnsInHanded {} Tryd.checked os 4 .any ((OpenSpec.ofChange Rows.mixBelowsSpec).preRow enc Tryd.prog Tryd.f4 Rows.mixBelowsRow.domain false Rows.mixBelowsRow.laid) (((OpenSpec.ofChange Rows.mixBelowsSpec).at F).post enc Tryd.prog Tryd.f4 false true false false) := by
  obtain ⟨places, hx⟩ := reads os enc
  refine returnsInHanded_of_row (C := Tryd.checked) (s := OpenSpec.ofChange Rows.mixBelowsSpec) own_ started (by kernel_rfl) Tryd.func4
    (witness_row_at (enc := enc) (C := Tryd.checked) false (laidWorld os) #[.int .u64 0, .int .u64 0, .int .u64 0] rfl (by kernel_rfl) (by kernel_rfl) (by kernel_rfl)
      (OpenSpec.preRow_of_cond 8 hx (by kernel_rfl) (fun k hk => by cases hk) (by kernel_rfl) (laid_met os))) ?_
  intro W base args ds gs before hval hW _ _ _ hL _ _
  exact contract H enc W base args ds gs before hval hW hL
theorem said : Rows.MixBelowsSaid :=
  OpenClaim.holds_of_cond 4 Tryd.f4 rfl rfl rfl rfl rfl rfl rfl ⟨rfl, rfl, rfl, rfl, rfl⟩ rfl rfl rfl rfl rfl (by kernel_rfl) Tryd.func4 (by kernel_rfl)
    (of_decide_eq_true (by kernel_rfl)) (by unfold Func.isWrapper; first | (rw [if_pos (by decide +kernel)]; kernel_rfl) | (rw [if_neg (by decide +kernel)]; exact ⟨rfl, rfl⟩))
    (fun os started H enc _ F => by rw [OpenClaim.pre_eq_preRow]; exact lifted os started H enc F)
theorem plain (f : FuncId) (fn : Func) (hf : Tryd.pinned.checked.prog.funcNamed "wakeman/wakemanlaw27.MixBelows" = some f) (hfn : Tryd.pinned.checked.prog.funcs[f]? = some fn) :
    false = Tryd.pinned.checked.prog.looks [] ∧ ∀ (j : Nat) t, fn.params[j]? = some t → Tryd.pinned.checked.prog.wantsStandIn t = false := by
  obtain rfl : f = 4 := Option.some.inj ((show Tryd.prog.funcNamed "wakeman/wakemanlaw27.MixBelows" = some 4 by kernel_rfl).symm.trans hf) |>.symm
  obtain rfl : fn = Tryd.f4 := (Option.some.inj (Tryd.func4.symm.trans hfn)).symm
  refine ⟨by kernel_rfl, fun j t ht => ?_⟩
  rw [Tryd.params4] at ht
  have hm := Array.mem_of_getElem? ht
  simp at hm
  rcases hm with rfl
  · exact (show Tryd.prog.wantsStandIn 22 = false by kernel_rfl)
theorem card : Rows.MixBelowsCardSaid :=
  Claim7.holds_tied_plain_at .later [] _ _ _ _ said (fun _ h => by cases h) (by kernel_rfl) (fun _ h => by cases h) mixBelows_row_tie rfl ⟨rfl, rfl⟩ (by kernel_rfl) rfl plain (by kernel_rfl)
#print axioms card
end Go.Proofs.YtelilcpbckecbaaDoor.lawMixBelows
