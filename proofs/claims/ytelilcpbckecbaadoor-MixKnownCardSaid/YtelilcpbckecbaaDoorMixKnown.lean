/-
  MixKnown: the examples of the chapter, and which numbers of elements a permutation may have.
  Conditions: none beyond the row's own (the table of package mix as the program's text lays it).
-/
import Derived.Test.YtelilcpbckecbaaDoorTie27
import Derived.Test.YtelilcpbckecbaaDoorWorks27
import Derived.Test.YtelilcpbckecbaaDoorAtM
import Derived.Test.YtelilcpbckecbaaDoorMixU
set_option linter.unusedVariables false
set_option linter.unusedSimpArgs false
namespace Go.Proofs.YtelilcpbckecbaaDoor.lawMixKnown
open Go.ChangeShapes Go.WideShapes Go.ChangeAt Go.RowKit
theorem kn0 : mixI (IntKind.u64.wrap (srcAt 1234567 0 + 11400714819323198485)) = 6457827717110365317 := by decide +kernel
theorem kn1 : mixI (IntKind.u64.wrap (srcAt 1234567 1 + 11400714819323198485)) = 3203168211198807973 := by decide +kernel
theorem kn2 : mixI (IntKind.u64.wrap (srcAt 1234567 2 + 11400714819323198485)) = 9817491932198370423 := by decide +kernel
theorem kn3 : mixI (IntKind.u64.wrap (srcAt 1234567 3 + 11400714819323198485)) = 4593380528125082431 := by decide +kernel
theorem kn4 : mixI (IntKind.u64.wrap (srcAt 1234567 4 + 11400714819323198485)) = 16408922859458223821 := by decide +kernel

theorem kz : srcAt 1234567 0 = 1234567 := by decide +kernel
theorem kb1 : hiI 18446744073709551615 10 = 9 := by decide +kernel
theorem kb2 : hiI 4611686018427387904 3 = 0 := by decide +kernel
theorem kb3 : hiI 4611686018427387904 4 = 1 := by decide +kernel
theorem km0 : mixI 0 = 0 := by decide +kernel
theorem ku0 : unmixI 0 = 0 := by rw [show (0 : Int) = mixI 0 from km0.symm, unmix_mixI 0 (by decide) (by decide)]; exact km0.symm
theorem ka1 : atI 0 1 = 7960286522194355700 := by decide +kernel
set_option maxHeartbeats 4000000 in
theorem walk (w : World) (ht : Tab w) :
    Calls Tryd.prog 12 #[] w fun e w' => e = .returned (.bool true) ∧ G w w' := by
  have hz := ht.1
  go_enter Tryd.func12, Tryd.ntmps12
  go_wp2_with fail
  refine (new_any _ _).mono ?_
  rintro e w1 ⟨rfl, rfl⟩
  have hS := Blk.new w 49 #[.bool true, .int .u64 1234567]
  have hG : G w (w.alloc (.cells #[.bool true, .int .u64 1234567] 49)) := (by repeat (first | exact G.refl _ | refine G.alloc ?_ _ | refine G.drewN ?_ _ | refine G.drew ?_ | refine G.trans ?_ (by assumption)))
  generalize w.alloc (.cells #[.bool true, .int .u64 1234567] 49) = W at hS hG ⊢
  obtain ⟨k, hk⟩ : ∃ k, k = w.heap.size := ⟨_, rfl⟩
  rw [← hk] at hS ⊢
  have hkz : 0 < k := by omega
  have hkw : w.heap.size ≤ k := by omega
  have hkW := hS.lt
  clear hk
  go_wp2_with fail
  have hP := Blk.new W 22 #[.int .u64 6457827717110365317, .int .u64 3203168211198807973, .int .u64 9817491932198370423, .int .u64 4593380528125082431, .int .u64 16408922859458223821]
  have hS := hS.alloc (.cells #[.int .u64 6457827717110365317, .int .u64 3203168211198807973, .int .u64 9817491932198370423, .int .u64 4593380528125082431, .int .u64 16408922859458223821] 22)
  have hG := hG.alloc (.cells #[.int .u64 6457827717110365317, .int .u64 3203168211198807973, .int .u64 9817491932198370423, .int .u64 4593380528125082431, .int .u64 16408922859458223821] 22)
  generalize W.alloc (.cells #[.int .u64 6457827717110365317, .int .u64 3203168211198807973, .int .u64 9817491932198370423, .int .u64 4593380528125082431, .int .u64 16408922859458223821] 22) = W2 at hS hG hP ⊢
  generalize W.heap.size = p at hP hkW ⊢
  have hpk : some p ≠ some k := by intro h; cases h; omega
  rw [← kz] at hS
  refine wp_loop_rounds 6 ?_
  rw [rounds_succ]
  have c0 : W2.cell? ⟨p, 0, none⟩ = some (.int .u64 6457827717110365317) := hP.cell 0
  go_wp2_with fail
  refine (next_any k _ _ (ht.g hG) hkz hS).mono ?_
  rintro e x0 ⟨rfl, g0, hS'⟩
  rw [srcAt_next] at hS'
  rw [kn0]
  have hG' := hG.own g0 hkw
  have hP' := hP.grown g0 hpk
  clear hG hP hS c0
  have hG := hG'
  have hP := hP'
  have hS := hS'
  clear hG' hP' hS'
  go_wp2_with fail
  rw [rounds_succ]
  have c1 : x0.cell? ⟨p, 1, none⟩ = some (.int .u64 3203168211198807973) := hP.cell 1
  go_wp2_with fail
  refine (next_any k _ _ (ht.g hG) hkz hS).mono ?_
  rintro e x1 ⟨rfl, g1, hS'⟩
  rw [srcAt_next] at hS'
  rw [kn1]
  have hG' := hG.own g1 hkw
  have hP' := hP.grown g1 hpk
  clear hG hP hS c1
  have hG := hG'
  have hP := hP'
  have hS := hS'
  clear hG' hP' hS'
  go_wp2_with fail
  rw [rounds_succ]
  have c2 : x1.cell? ⟨p, 2, none⟩ = some (.int .u64 9817491932198370423) := hP.cell 2
  go_wp2_with fail
  refine (next_any k _ _ (ht.g hG) hkz hS).mono ?_
  rintro e x2 ⟨rfl, g2, hS'⟩
  rw [srcAt_next] at hS'
  rw [kn2]
  have hG' := hG.own g2 hkw
  have hP' := hP.grown g2 hpk
  clear hG hP hS c2
  have hG := hG'
  have hP := hP'
  have hS := hS'
  clear hG' hP' hS'
  go_wp2_with fail
  rw [rounds_succ]
  have c3 : x2.cell? ⟨p, 3, none⟩ = some (.int .u64 4593380528125082431) := hP.cell 3
  go_wp2_with fail
  refine (next_any k _ _ (ht.g hG) hkz hS).mono ?_
  rintro e x3 ⟨rfl, g3, hS'⟩
  rw [srcAt_next] at hS'
  rw [kn3]
  have hG' := hG.own g3 hkw
  have hP' := hP.grown g3 hpk
  clear hG hP hS c3
  have hG := hG'
  have hP := hP'
  have hS := hS'
  clear hG' hP' hS'
  go_wp2_with fail
  rw [rounds_succ]
  have c4 : x3.cell? ⟨p, 4, none⟩ = some (.int .u64 16408922859458223821) := hP.cell 4
  go_wp2_with fail
  refine (next_any k _ _ (ht.g hG) hkz hS).mono ?_
  rintro e x4 ⟨rfl, g4, hS'⟩
  rw [srcAt_next] at hS'
  rw [kn4]
  have hG' := hG.own g4 hkw
  have hP' := hP.grown g4 hpk
  clear hG hP hS c4
  have hG := hG'
  have hP := hP'
  have hS := hS'
  clear hG' hP' hS'
  go_wp2_with fail
  rw [rounds_succ]
  go_wp2_with fail
  have hQ := Blk.new x4 3 #[.int .i64 (-1), .int .i64 257, .int .i64 9223372036854775807, .int .i64 (-9223372036854775808)]
  have hG := hG.alloc (.cells #[.int .i64 (-1), .int .i64 257, .int .i64 9223372036854775807, .int .i64 (-9223372036854775808)] 3)
  generalize x4.alloc (.cells #[.int .i64 (-1), .int .i64 257, .int .i64 9223372036854775807, .int .i64 (-9223372036854775808)] 3) = W3 at hG hQ ⊢
  generalize x4.heap.size = q at hQ ⊢
  refine wp_loop_rounds 5 ?_
  rw [rounds_succ]
  have c0 : W3.cell? ⟨q, 0, none⟩ = some (.int .i64 (-1)) := hQ.cell 0
  go_wp2_with fail
  refine (perm_bad 7 (-1) (by decide) _).mono ?_
  rintro e w1 ⟨rfl, rfl⟩
  go_wp2_with fail
  rw [rounds_succ]
  have c1 : W3.cell? ⟨q, 1, none⟩ = some (.int .i64 (257)) := hQ.cell 1
  go_wp2_with fail
  refine (perm_bad 7 (257) (by decide) _).mono ?_
  rintro e w1 ⟨rfl, rfl⟩
  go_wp2_with fail
  rw [rounds_succ]
  have c2 : W3.cell? ⟨q, 2, none⟩ = some (.int .i64 (9223372036854775807)) := hQ.cell 2
  go_wp2_with fail
  refine (perm_bad 7 (9223372036854775807) (by decide) _).mono ?_
  rintro e w1 ⟨rfl, rfl⟩
  go_wp2_with fail
  rw [rounds_succ]
  have c3 : W3.cell? ⟨q, 3, none⟩ = some (.int .i64 (-9223372036854775808)) := hQ.cell 3
  go_wp2_with fail
  refine (perm_bad 7 (-9223372036854775808) (by decide) _).mono ?_
  rintro e w1 ⟨rfl, rfl⟩
  go_wp2_with fail
  rw [rounds_succ]
  go_wp2_with fail
  refine (perm_any 7 0 (by decide) (by decide) (by decide) _ (ht.g hG)).mono ?_
  rintro e y1 ⟨rfl, hg1, hb1⟩
  go_wp2_with fail
  refine (perm_any 7 256 (by decide) (by decide) (by decide) _ (ht.g (by repeat (first | exact G.refl _ | refine G.alloc ?_ _ | refine G.drewN ?_ _ | refine G.drew ?_ | refine G.trans ?_ (by assumption))))).mono ?_
  rintro e y2 ⟨rfl, hg2, hb2⟩
  go_wp2_with fail
  refine (below_any 18446744073709551615 10 (by decide) (by decide) (by decide) (by decide) _).mono ?_
  rintro e w1 ⟨rfl, rfl⟩
  rw [kb1]
  go_wp2_with fail
  refine (below_any 4611686018427387904 3 (by decide) (by decide) (by decide) (by decide) _).mono ?_
  rintro e w1 ⟨rfl, rfl⟩
  rw [kb2]
  go_wp2_with fail
  refine (below_any 4611686018427387904 4 (by decide) (by decide) (by decide) (by decide) _).mono ?_
  rintro e w1 ⟨rfl, rfl⟩
  rw [kb3]
  go_wp2_with fail
  refine (mix_any 0 (by decide) (by decide) _ (ht.g (by repeat (first | exact G.refl _ | refine G.alloc ?_ _ | refine G.drewN ?_ _ | refine G.drew ?_ | refine G.trans ?_ (by assumption))))).mono ?_
  rintro e y3 ⟨rfl, hg3⟩
  rw [km0]
  go_wp2_with fail
  refine (unmix_any 0 (by decide) (by decide) _ (ht.g (by repeat (first | exact G.refl _ | refine G.alloc ?_ _ | refine G.drewN ?_ _ | refine G.drew ?_ | refine G.trans ?_ (by assumption))))).mono ?_
  rintro e y4 ⟨rfl, hg4⟩
  rw [ku0]
  go_wp2_with fail
  refine (at_any 0 1 (by decide) (by decide) (by decide) (by decide) _ (ht.g (by repeat (first | exact G.refl _ | refine G.alloc ?_ _ | refine G.drewN ?_ _ | refine G.drew ?_ | refine G.trans ?_ (by assumption))))).mono ?_
  rintro e y5 ⟨rfl, hg5⟩
  rw [ka1]
  go_wp2_with fail
  refine (works_any _ (ht.g (by repeat (first | exact G.refl _ | refine G.alloc ?_ _ | refine G.drewN ?_ _ | refine G.drew ?_ | refine G.trans ?_ (by assumption))))).mono ?_
  rintro e y6 ⟨rfl, hg6⟩
  go_wp2_with fail
  go_ret
  exact ⟨rfl, (by repeat (first | exact G.refl _ | refine G.alloc ?_ _ | refine G.drewN ?_ _ | refine G.drew ?_ | refine G.trans ?_ (by assumption)))⟩

theorem contract (H : Type) (enc : TypeId × Value → H) (W : World) (base : Nat) (args : Array Value) (ds gs : List (DataW H)) (before : List MemPlace)
    (hval : ∀ (j : Nat) t v, Tryd.f12.params[j]? = some t → args[j]? = some v → Value.okWide Tryd.prog W .any base t v)
    (hW : DataW.Whole enc Tryd.prog Tryd.f12.params.toList Rows.mixKnownSpec.vars false W args.toList ds gs before) (hL : laidMetH Tryd.prog Rows.mixKnownRow.laid W) :
    Calls Tryd.prog 12 args W fun e W' => ∃ v, e = .returned v ∧ Rows.mixKnownSpec.post enc Tryd.prog Tryd.f12 false true false false W args v W' := by
  have hW' := hW
  obtain ⟨p, q, hA0, hV, rfl, hfz, hnd⟩ := hW
  have hA : DataW.TrodAll enc Tryd.prog W 0 (fun _ => true) true Tryd.f12.params.toList args.toList ds p := hA0
  rw [Tryd.params12] at hA hval
  obtain rfl : args = #[] := by rcases args with ⟨l⟩; cases l with | nil => rfl | cons a b => exact (by cases ds <;> exact hA.elim)
  obtain rfl : ds = [] := by cases ds with | nil => rfl | cons a b => exact hA.elim
  refine (walk  W (tab_of hL)).mono fun e W' ⟨he, hg⟩ => ?_
  subst he
  exact ⟨_, rfl, law_post laidOut_ (by intro t ht; rw [Tryd.params12] at ht; simp at ht; skip) hW' rfl rfl (by kernel_rfl) Tryd.underlying4 hg⟩
theorem laid_met (os : Os) : laidMet Tryd.prog Rows.mixKnownRow.laid ((laidWorld os).forCall (fun _ _ => 0) ⟨#[], #[], []⟩).memory :=
  laidMet_of_run' 8 (by kernel_rfl) (by kernel_rfl)
theorem reads (os : Os) {H : Type} (enc : TypeId × Value → H) : ∃ places, DataW.whole enc Tryd.prog ((laidWorld os).forCall (fun _ _ => 0) ⟨#[], #[], []⟩).memory Tryd.f12.params.toList Rows.mixKnownSpec.vars false (#[] : Array Value).toList 8 = some ([], [], places) :=
  ⟨[], by kernel_rfl⟩
set_option maxRecDepth 100000 in
theorem lifted (os : Os) (started : os.Started) (H : Type) (enc : TypeId × Value → H) (F : Stop.Interp) :
    ReturnsInHanded {} Tryd.checked os 12 .any ((OpenSpec.ofChange Rows.mixKnownSpec).preRow enc Tryd.prog Tryd.f12 Rows.mixKnownRow.domain false Rows.mixKnownRow.laid) (((OpenSpec.ofChange Rows.mixKnownSpec).at F).post enc Tryd.prog Tryd.f12 false true false false) := by
  obtain ⟨places, hx⟩ := reads os enc
  refine returnsInHanded_of_row (C := Tryd.checked) (s := OpenSpec.ofChange Rows.mixKnownSpec) own_ started (by kernel_rfl) Tryd.func12
    (witness_row_at (enc := enc) (C := Tryd.checked) false (laidWorld os) #[] rfl (by kernel_rfl) (by kernel_rfl) (by kernel_rfl)
      (OpenSpec.preRow_of_cond 8 hx (by kernel_rfl) (fun k hk => by cases hk) (by kernel_rfl) (laid_met os))) ?_
  intro W base args ds gs before hval hW _ _ _ hL _ _
  exact contract H enc W base args ds gs before hval hW hL
theorem said : Rows.MixKnownSaid :=
  OpenClaim.holds_of_cond 12 Tryd.f12 rfl rfl rfl rfl rfl rfl rfl ⟨rfl, rfl, rfl, rfl, rfl⟩ rfl rfl rfl rfl rfl (by kernel_rfl) Tryd.func12 (by kernel_rfl)
    (of_decide_eq_true (by kernel_rfl)) (by unfold Func.isWrapper; first | (rw [if_pos (by decide +kernel)]; kernel_rfl) | (rw [if_neg (by decide +kernel)]; exact ⟨rfl, rfl⟩))
    (fun os started H enc _ F => by rw [OpenClaim.pre_eq_preRow]; exact lifted os started H enc F)
theorem plain (f : FuncId) (fn : Func) (hf : Tryd.pinned.checked.prog.funcNamed "wakeman/wakemanlaw27.MixKnown" = some f) (hfn : Tryd.pinned.checked.prog.funcs[f]? = some fn) :
    false = Tryd.pinned.checked.prog.looks [] ∧ ∀ (j : Nat) t, fn.params[j]? = some t → Tryd.pinned.checked.prog.wantsStandIn t = false := by
  obtain rfl : f = 12 := Option.some.inj ((show Tryd.prog.funcNamed "wakeman/wakemanlaw27.MixKnown" = some 12 by kernel_rfl).symm.trans hf) |>.symm
  obtain rfl : fn = Tryd.f12 := (Option.some.inj (Tryd.func12.symm.trans hfn)).symm
  refine ⟨by kernel_rfl, fun j t ht => ?_⟩
  rw [Tryd.params12] at ht
  simp at ht
theorem card : Rows.MixKnownCardSaid :=
  Claim7.holds_tied_plain_at .later [] _ _ _ _ said (fun _ h => by cases h) (by kernel_rfl) (fun _ h => by cases h) mixKnown_row_tie rfl ⟨rfl, rfl⟩ (by kernel_rfl) rfl plain (by kernel_rfl)
#print axioms card
end Go.Proofs.YtelilcpbckecbaaDoor.lawMixKnown
