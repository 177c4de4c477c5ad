/-
  HashSums: hashes of texts and of numbers, and keys of attempts, are those of the document.
  Conditions: none beyond the row's own (the table of package mix as the program's text lays it).
-/
import Derived.Test.YtodijghpeikmoaaDoorTieM
import Derived.Test.YtodijghpeikmoaaDoorHsX
set_option linter.unusedVariables false
set_option linter.unusedSimpArgs false
namespace Go.Proofs.YtodijghpeikmoaaDoor.lawHashSums
open Go.ChangeShapes Go.WideShapes Go.ChangeAt Go.RowKit
set_option maxHeartbeats 4000000 in
theorem walk (w : World) (s : ByteArray) (hsm : s.size ≤ 9223372036854775807) (h : Int) (h0 : 0 ≤ h) (h1 : h ≤ 18446744073709551615) (n : Int) (n0 : -9223372036854775808 ≤ n) (n1 : n ≤ 9223372036854775807) (m : Int) (m0 : -9223372036854775808 ≤ m) (m1 : m ≤ 9223372036854775807) (ht : Tab w) :
    Calls Tryd.prog 11 #[.string s, .int .u64 h, .int .i64 n, .int .i64 m] w fun e w' => e = .returned (.bool true) ∧ G w w' := by
  have HT := Lib.hid ht
  clear ht
  by_cases hbig : 2000 < s.size
  · go_enter Tryd.func11, Tryd.ntmps11
    go_wp2_with fail
    go_at_call 13
    refine (works_any _ HT.out).mono ?_
    rintro e w8 ⟨rfl, g8⟩
    go_wp2_with fail
    go_ret
    exact ⟨rfl, (by repeat (first | exact G.refl _ | refine G.alloc ?_ _ | refine G.drewN ?_ _ | refine G.drew ?_ | refine G.trans ?_ (by assumption)))⟩
  · have hs2 : s.size ≤ 2000 := by omega
    have hsz : s.size < 9223372036854775807 := by omega
    have hu : u64 h := ⟨h0, by omega⟩
    clear hbig hsm
    go_enter Tryd.func11, Tryd.ntmps11
    go_wp2_with fail
    go_at_call 21
    refine (sum_any s hsz _).mono ?_
    rintro e w1 ⟨rfl, g1⟩
    go_wp2_with fail
    go_at_call 25
    refine (rsum_any s hsz _).mono ?_
    rintro e w2 ⟨rfl, g2⟩
    have gA := g1.trans g2
    clear g1 g2
    go_wp2_with fail
    go_at_call 20
    refine (more_any h s hu hsz _).mono ?_
    rintro e w3 ⟨rfl, g3⟩
    go_wp2_with fail
    go_at_call 26
    refine (rmore_any h s hu hsz _).mono ?_
    rintro e w4 ⟨rfl, g4⟩
    have gB := gA.trans (g3.trans g4)
    clear gA g3 g4
    go_wp2_with fail
    go_at_call 22
    refine (num_any h n hu n0 n1 _).mono ?_
    rintro e w5 ⟨rfl, g5⟩
    go_wp2_with fail
    go_at_call 27
    refine (rnumber_any h n hu n0 n1 _).mono ?_
    rintro e w6 ⟨rfl, g6⟩
    have gC := gB.trans (g5.trans g6)
    clear gB g5 g6
    go_wp2_with fail
    go_at_call 28
    refine (key_any h s n m hu hsz n0 n1 m0 m1 _).mono ?_
    rintro e w7 ⟨rfl, g7⟩
    go_wp2_with fail
    go_at_call 29
    refine (rkey_any h s n m hu hsz n0 n1 m0 m1 _).mono ?_
    rintro e w8 ⟨rfl, g8⟩
    have gD := gC.trans (g7.trans g8)
    clear gC g7 g8
    go_wp2_with fail
    go_at_call 13
    refine (works_any _ (HT.out.g gD)).mono ?_
    rintro e w9 ⟨rfl, g9⟩
    have gE := gD.trans g9
    clear gD g9
    go_wp2_with fail
    go_ret
    exact ⟨rfl, gE⟩

set_option maxHeartbeats 2000000 in
theorem contract (H : Type) (enc : TypeId × Value → H) (W : World) (base : Nat) (args : Array Value) (ds gs : List (DataW H)) (before : List MemPlace)
    (hval : ∀ (j : Nat) t v, Tryd.f11.params[j]? = some t → args[j]? = some v → Value.okWide Tryd.prog W .any base t v)
    (hW : DataW.Whole enc Tryd.prog Tryd.f11.params.toList Rows.hashSumsSpec.vars false W args.toList ds gs before) (hL : laidMetH Tryd.prog Rows.hashSumsRow.laid W) :
    Calls Tryd.prog 11 args W fun e W' => ∃ v, e = .returned v ∧ Rows.hashSumsSpec.post enc Tryd.prog Tryd.f11 false true false false W args v W' := by
  have hW' := hW
  obtain ⟨p, q, hA0, hV, rfl, hfz, hnd⟩ := hW
  have hA : DataW.TrodAll enc Tryd.prog W 0 (fun _ => true) true Tryd.f11.params.toList args.toList ds p := hA0
  rw [Tryd.params11] at hA hval
  obtain ⟨v0, vs0, d0, ds0, p0, q0, hargs, rfl, rfl, h0, r0⟩ := trodAll_cons hA
  obtain ⟨v1, vs1, d1, ds1, p1, q1, rfl, rfl, rfl, h1, r1⟩ := trodAll_cons r0
  obtain ⟨v2, vs2, d2, ds2, p2, q2, rfl, rfl, rfl, h2, r2⟩ := trodAll_cons r1
  obtain ⟨v3, vs3, d3, ds3, p3, q3, rfl, rfl, rfl, h3, r3⟩ := trodAll_cons r2
  obtain ⟨rfl, rfl, rfl⟩ := trodAll_nil r3
  obtain rfl : args = #[v0, v1, v2, v3] := by cases args; simp_all
  obtain ⟨a0, rfl, rfl, rfl, w0⟩ := open_string Tryd.underlying9 (hval 0 9 v0 rfl rfl) h0
  obtain ⟨a1, rfl, rfl, rfl, w1⟩ := open_int Tryd.underlying23 (hval 1 23 v1 rfl rfl) h1
  simp [Lit.wf, IntKind.min, IntKind.max, IntKind.bits, IntKind.signed] at w1
  obtain ⟨a2, rfl, rfl, rfl, w2⟩ := open_int Tryd.underlying2 (hval 2 2 v2 rfl rfl) h2
  simp [Lit.wf, IntKind.min, IntKind.max, IntKind.bits, IntKind.signed] at w2
  obtain ⟨a3, rfl, rfl, rfl, w3⟩ := open_int Tryd.underlying2 (hval 3 2 v3 rfl rfl) h3
  simp [Lit.wf, IntKind.min, IntKind.max, IntKind.bits, IntKind.signed] at w3
  refine (walk (w := W) a0 w0 a1 (by omega) (by omega) a2 (by omega) (by omega) a3 (by omega) (by omega) (tab_of hL)).mono fun e W' ⟨he, hg⟩ => ?_
  subst he
  exact ⟨_, rfl, law_post laidOut_ (by
    intro t ht
    rw [Tryd.params11] at ht
    simp at ht
    rcases ht with rfl | rfl | rfl <;> exact ⟨by kernel_rfl, by decide +kernel⟩) hW' rfl rfl (by kernel_rfl) Tryd.underlying4 hg⟩
theorem laid_met (os : Os) : laidMet Tryd.prog Rows.hashSumsRow.laid ((laidWorld os).forCall (fun _ _ => 0) ⟨#[], #[.string ByteArray.empty, .int .u64 0, .int .i64 0, .int .i64 0], []⟩).memory :=
  laidMet_of_run' 8 (by kernel_rfl) (by kernel_rfl)
theorem reads (os : Os) {H : Type} (enc : TypeId × Value → H) : ∃ places, DataW.whole enc Tryd.prog ((laidWorld os).forCall (fun _ _ => 0) ⟨#[], #[.string ByteArray.empty, .int .u64 0, .int .i64 0, .int .i64 0], []⟩).memory Tryd.f11.params.toList Rows.hashSumsSpec.vars false (#[.string ByteArray.empty, .int .u64 0, .int .i64 0, .int .i64 0] : Array Value).toList 8 = some ([.lit (.string []), .lit (.int .u64 0), .lit (.int .i64 0), .lit (.int .i64 0)], [], places) :=
  ⟨[], by kernel_rfl⟩
set_option maxRecDepth 100000 in
theorem lifted (os : Os) (started : os.Started) (H : Type) (enc : TypeId × Value → H) (F : Stop.Interp) :
    ReturnsInHanded {} Tryd.checked os 11 .any ((OpenSpec.ofChange Rows.hashSumsSpec).preRow enc Tryd.prog Tryd.f11 Rows.hashSumsRow.domain false Rows.hashSumsRow.laid) (((OpenSpec.ofChange Rows.hashSumsSpec).at F).post enc Tryd.prog Tryd.f11 false true false false) := by
  obtain ⟨places, hx⟩ := reads os enc
  refine returnsInHanded_of_row (C := Tryd.checked) (s := OpenSpec.ofChange Rows.hashSumsSpec) own_ started (by kernel_rfl) Tryd.func11
    (witness_row_at (enc := enc) (C := Tryd.checked) false (laidWorld os) #[.string ByteArray.empty, .int .u64 0, .int .i64 0, .int .i64 0] rfl (by kernel_rfl) (by kernel_rfl) (by kernel_rfl)
      (OpenSpec.preRow_of_cond 8 hx (by kernel_rfl) (fun k hk => by cases hk) (by kernel_rfl) (laid_met os))) ?_
  intro W base args ds gs before hval hW _ _ _ hL _ _
  exact contract H enc W base args ds gs before hval hW hL
theorem said : Rows.HashSumsSaid :=
  OpenClaim.holds_of_cond 11 Tryd.f11 rfl rfl rfl rfl rfl rfl rfl ⟨rfl, rfl, rfl, rfl, rfl⟩ rfl rfl rfl rfl rfl (by kernel_rfl) Tryd.func11 (by kernel_rfl)
    (of_decide_eq_true (by kernel_rfl)) (by unfold Func.isWrapper; first | (rw [if_pos (by decide +kernel)]; kernel_rfl) | (rw [if_neg (by decide +kernel)]; exact ⟨rfl, rfl⟩))
    (fun os started H enc _ F => by rw [OpenClaim.pre_eq_preRow]; exact lifted os started H enc F)
theorem plain (f : FuncId) (fn : Func) (hf : Tryd.pinned.checked.prog.funcNamed "wakeman/wakemanlaw28.HashSums" = some f) (hfn : Tryd.pinned.checked.prog.funcs[f]? = some fn) :
    false = Tryd.pinned.checked.prog.looks [] ∧ ∀ (j : Nat) t, fn.params[j]? = some t → Tryd.pinned.checked.prog.wantsStandIn t = false := by
  obtain rfl : f = 11 := Option.some.inj ((show Tryd.prog.funcNamed "wakeman/wakemanlaw28.HashSums" = some 11 by kernel_rfl).symm.trans hf) |>.symm
  obtain rfl : fn = Tryd.f11 := (Option.some.inj (Tryd.func11.symm.trans hfn)).symm
  refine ⟨by kernel_rfl, fun j t ht => ?_⟩
  rw [Tryd.params11] at ht
  have hm := Array.mem_of_getElem? ht
  simp at hm
  rcases hm with rfl | rfl | rfl
  · exact (show Tryd.prog.wantsStandIn 9 = false by kernel_rfl)
  · exact (show Tryd.prog.wantsStandIn 23 = false by kernel_rfl)
  · exact (show Tryd.prog.wantsStandIn 2 = false by kernel_rfl)
theorem card : Rows.HashSumsCardSaid :=
  Claim7.holds_tied_plain_at .later [] _ _ _ _ said (fun _ h => by cases h) (by kernel_rfl) (fun _ h => by cases h) hashSums_row_tie rfl ⟨rfl, rfl⟩ (by kernel_rfl) rfl plain (by kernel_rfl)
#print axioms card
end Go.Proofs.YtodijghpeikmoaaDoor.lawHashSums
