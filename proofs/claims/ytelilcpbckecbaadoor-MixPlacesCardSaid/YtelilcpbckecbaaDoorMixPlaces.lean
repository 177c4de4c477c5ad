/-
  MixPlaces: after n numbers are passed over a source returns the number with the index n; the sequence of the next seed is shifted by one; different indexes have different numbers.
  Conditions: none beyond the row's own (the table of package mix as the program's text lays it).
-/
import Derived.Test.YtelilcpbckecbaaDoorTie27
import Derived.Test.YtelilcpbckecbaaDoorWorks27
import Derived.Test.YtelilcpbckecbaaDoorAtM
set_option linter.unusedVariables false
set_option linter.unusedSimpArgs false
namespace Go.Proofs.YtelilcpbckecbaaDoor.lawMixPlaces
open Go.ChangeShapes Go.WideShapes Go.ChangeAt Go.RowKit

set_option maxHeartbeats 1000000 in
theorem walk (s : Int) (s0 : 0 ≤ s) (s1 : s < 18446744073709551616) (n : Int) (n0 : 0 ≤ n) (n1 : n < 18446744073709551616) (m : Int) (m0 : 0 ≤ m) (m1 : m < 18446744073709551616) (w : World) (ht : Tab w) :
    Calls Tryd.prog 6 #[.int .u64 s, .int .u64 n, .int .u64 m] w fun e w' => e = .returned (.bool true) ∧ G w w' := by
  have A1 := Lib.hid (at_shift s n s0 s1 n0 n1)
  have A2 := Lib.hid (skip_next s n s0 s1 n0 n1)
  have A3 := Lib.hid (skip_next2 s n s0 s1 n0 n1)
  have A4 := Lib.hid (at_inj s n m s0 s1 n0 n1 m0 m1)
  have hz := ht.1
  go_enter Tryd.func6, Tryd.ntmps6
  go_wp2_with fail
  refine (new_any s _).mono ?_
  rintro e w1 ⟨rfl, rfl⟩
  have hS := Blk.new w 49 #[.bool true, .int .u64 s]
  go_wp2_with fail
  refine (skip_any _ _ n _ hS).mono ?_
  rintro e w2 ⟨rfl, g2, hS2⟩
  have G2 : G w w2 := G.own (by repeat (first | exact G.refl _ | refine G.alloc ?_ _ | refine G.drewN ?_ _ | refine G.drew ?_ | refine G.trans ?_ (by assumption))) g2 (Nat.le_refl _)
  go_wp2_with fail
  refine (next_any _ _ _ (ht.g G2) hz hS2).mono ?_
  rintro e w3 ⟨rfl, g3, hS3⟩
  have G3 : G w w3 := G2.own g3 (Nat.le_refl _)
  rw [A2.out]
  go_wp2_with fail
  refine (at_any s n s0 s1 n0 n1 _ (ht.g G3)).mono ?_
  rintro e w4 ⟨rfl, g4⟩
  have G4 : G w w4 := G3.trans g4
  go_wp2_with fail
  refine (next_any _ _ _ (ht.g G4) hz (hS3.g g4)).mono ?_
  rintro e w5 ⟨rfl, g5, hS5⟩
  have G5 : G w w5 := G4.own g5 (Nat.le_refl _)
  rw [A3.out]
  go_wp2_with fail
  refine (at_any s _ s0 s1 (u64_bd _).1 (u64_bd _).2 _ (ht.g G5)).mono ?_
  rintro e w6 ⟨rfl, g6⟩
  have G6 : G w w6 := G5.trans g6
  go_wp2_with fail
  refine (at_any _ n (u64_bd _).1 (u64_bd _).2 n0 n1 _ (ht.g G6)).mono ?_
  rintro e w7 ⟨rfl, g7⟩
  have G7 : G w w7 := G6.trans g7
  rw [A1.out]
  go_wp2_with fail
  refine (at_any s _ s0 s1 (u64_bd _).1 (u64_bd _).2 _ (ht.g G7)).mono ?_
  rintro e w8 ⟨rfl, g8⟩
  have G8 : G w w8 := G7.trans g8
  go_wp2_with fail
  refine (at_any s n s0 s1 n0 n1 _ (ht.g G8)).mono ?_
  rintro e w9 ⟨rfl, g9⟩
  have G9 : G w w9 := G8.trans g9
  go_wp2_with fail
  refine (at_any s m s0 s1 m0 m1 _ (ht.g G9)).mono ?_
  rintro e w10 ⟨rfl, g10⟩
  have G10 : G w w10 := G9.trans g10
  have A5 := A4.out
  clear A1 A2 A3 A4
  go_wp2_with fail
  refine (works_any _ (ht.g G10)).mono ?_
  rintro e w11 ⟨rfl, g11⟩
  go_wp2_with fail
  go_ret
  exact ⟨rfl, G10.trans g11⟩

theorem contract (H : Type) (enc : TypeId × Value → H) (W : World) (base : Nat) (args : Array Value) (ds gs : List (DataW H)) (before : List MemPlace)
    (hval : ∀ (j : Nat) t v, Tryd.f6.params[j]? = some t → args[j]? = some v → Value.okWide Tryd.prog W .any base t v)
    (hW : DataW.Whole enc Tryd.prog Tryd.f6.params.toList Rows.mixPlacesSpec.vars false W args.toList ds gs before) (hL : laidMetH Tryd.prog Rows.mixPlacesRow.laid W) :
    Calls Tryd.prog 6 args W fun e W' => ∃ v, e = .returned v ∧ Rows.mixPlacesSpec.post enc Tryd.prog Tryd.f6 false true false false W args v W' := by
  have hW' := hW
  obtain ⟨p, q, hA0, hV, rfl, hfz, hnd⟩ := hW
  have hA : DataW.TrodAll enc Tryd.prog W 0 (fun _ => true) true Tryd.f6.params.toList args.toList ds p := hA0
  rw [Tryd.params6] at hA hval
  obtain ⟨v0, vs0, d0, ds0, p0, q0, hargs, rfl, rfl, h0, r0⟩ := trodAll_cons hA
  obtain ⟨v1, vs1, d1, ds1, p1, q1, rfl, rfl, rfl, h1, r1⟩ := trodAll_cons r0
  obtain ⟨v2, vs2, d2, ds2, p2, q2, rfl, rfl, rfl, h2, r2⟩ := trodAll_cons r1
  obtain ⟨rfl, rfl, rfl⟩ := trodAll_nil r2
  obtain rfl : args = #[v0, v1, v2] := by cases args; simp_all
  obtain ⟨a0, rfl, rfl, rfl, w0⟩ := open_int Tryd.underlying22 (hval 0 22 v0 rfl rfl) h0
  simp [Lit.wf, IntKind.min, IntKind.max, IntKind.bits, IntKind.signed] at w0
  obtain ⟨a1, rfl, rfl, rfl, w1⟩ := open_int Tryd.underlying22 (hval 1 22 v1 rfl rfl) h1
  simp [Lit.wf, IntKind.min, IntKind.max, IntKind.bits, IntKind.signed] at w1
  obtain ⟨a2, rfl, rfl, rfl, w2⟩ := open_int Tryd.underlying22 (hval 2 22 v2 rfl rfl) h2
  simp [Lit.wf, IntKind.min, IntKind.max, IntKind.bits, IntKind.signed] at w2
  refine (walk a0 (by omega) (by omega) a1 (by omega) (by omega) a2 (by omega) (by omega) W (tab_of hL)).mono fun e W' ⟨he, hg⟩ => ?_
  subst he
  exact ⟨_, rfl, law_post laidOut_ (by intro t ht; rw [Tryd.params6] at ht; simp at ht; rcases ht with rfl <;> exact ⟨by kernel_rfl, by decide +kernel⟩) hW' rfl rfl (by kernel_rfl) Tryd.underlying4 hg⟩
theorem laid_met (os : Os) : laidMet Tryd.prog Rows.mixPlacesRow.laid ((laidWorld os).forCall (fun _ _ => 0) ⟨#[], #[.int .u64 0, .int .u64 0, .int .u64 0], []⟩).memory :=
  laidMet_of_run' 8 (by kernel_rfl) (by kernel_rfl)
theorem reads (os : Os) {H : Type} (enc : TypeId × Value → H) : ∃ places, DataW.whole enc Tryd.prog ((laidWorld os).forCall (fun _ _ => 0) ⟨#[], #[.int .u64 0, .int .u64 0, .int .u64 0], []⟩).memory Tryd.f6.params.toList Rows.mixPlacesSpec.vars false (#[.int .u64 0, .int .u64 0, .int .u64 0] : Array Value).toList 8 = some ([.lit (.int .u64 0), .lit (.int .u64 0), .lit (.int .u64 0)], [], places) :=
  ⟨[], by kernel_rfl⟩
set_option maxRecDepth 100000 in
theorem lifted (os : Os) (started : os.Started) (H : Type) (enc : TypeId × Value → H) (F : Stop.Interp) :
    ReturnsInHanded {} Tryd.checked os 6 .any ((OpenSpec.ofChange Rows.mixPlacesSpec).preRow enc Tryd.prog Tryd.f6 Rows.mixPlacesRow.domain false Rows.mixPlacesRow.laid) (((OpenSpec.ofChange Rows.mixPlacesSpec).at F).post enc Tryd.prog Tryd.f6 false true false false) := by
  obtain ⟨places, hx⟩ := reads os enc
  refine returnsInHanded_of_row (C := Tryd.checked) (s := OpenSpec.ofChange Rows.mixPlacesSpec) own_ started (by kernel_rfl) Tryd.func6
    (witness_row_at (enc := enc) (C := Tryd.checked) false (laidWorld os) #[.int .u64 0, .int .u64 0, .int .u64 0] rfl (by kernel_rfl) (by kernel_rfl) (by kernel_rfl)
      (OpenSpec.preRow_of_cond 8 hx (by kernel_rfl) (fun k hk => by cases hk) (by kernel_rfl) (laid_met os))) ?_
  intro W base args ds gs before hval hW _ _ _ hL _ _
  exact contract H enc W base args ds gs before hval hW hL
theorem said : Rows.MixPlacesSaid :=
  OpenClaim.holds_of_cond 6 Tryd.f6 rfl rfl rfl rfl rfl rfl rfl ⟨rfl, rfl, rfl, rfl, rfl⟩ rfl rfl rfl rfl rfl (by kernel_rfl) Tryd.func6 (by kernel_rfl)
    (of_decide_eq_true (by kernel_rfl)) (by unfold Func.isWrapper; first | (rw [if_pos (by decide +kernel)]; kernel_rfl) | (rw [if_neg (by decide +kernel)]; exact ⟨rfl, rfl⟩))
    (fun os started H enc _ F => by rw [OpenClaim.pre_eq_preRow]; exact lifted os started H enc F)
theorem plain (f : FuncId) (fn : Func) (hf : Tryd.pinned.checked.prog.funcNamed "wakeman/wakemanlaw27.MixPlaces" = some f) (hfn : Tryd.pinned.checked.prog.funcs[f]? = some fn) :
    false = Tryd.pinned.checked.prog.looks [] ∧ ∀ (j : Nat) t, fn.params[j]? = some t → Tryd.pinned.checked.prog.wantsStandIn t = false := by
  obtain rfl : f = 6 := Option.some.inj ((show Tryd.prog.funcNamed "wakeman/wakemanlaw27.MixPlaces" = some 6 by kernel_rfl).symm.trans hf) |>.symm
  obtain rfl : fn = Tryd.f6 := (Option.some.inj (Tryd.func6.symm.trans hfn)).symm
  refine ⟨by kernel_rfl, fun j t ht => ?_⟩
  rw [Tryd.params6] at ht
  have hm := Array.mem_of_getElem? ht
  simp at hm
  rcases hm with rfl
  · exact (show Tryd.prog.wantsStandIn 22 = false by kernel_rfl)
theorem card : Rows.MixPlacesCardSaid :=
  Claim7.holds_tied_plain_at .later [] _ _ _ _ said (fun _ h => by cases h) (by kernel_rfl) (fun _ h => by cases h) mixPlaces_row_tie rfl ⟨rfl, rfl⟩ (by kernel_rfl) rfl plain (by kernel_rfl)
#print axioms card
end Go.Proofs.YtelilcpbckecbaaDoor.lawMixPlaces
