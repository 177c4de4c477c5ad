/-
  HashParts: a hash goes on with a text as with its parts, one after the other.
  Conditions: none beyond the row's own (the table of package mix as the program's text lays it).
-/
import Derived.Test.YtodijghpeikmoaaDoorTieM
import Derived.Test.YtodijghpeikmoaaDoorHsX
set_option linter.unusedVariables false
set_option linter.unusedSimpArgs false
namespace Go.Proofs.YtodijghpeikmoaaDoor.lawHashParts
open Go.ChangeShapes Go.WideShapes Go.ChangeAt Go.RowKit
theorem bs_append (s t : ByteArray) : bs (s ++ t) = bs s ++ bs t := by
  unfold bs
  simp [ByteArray.data_append]
theorem hS_append (h : Int) (l m : List Int) : hS h (l ++ m) = hS (hS h l) m := by unfold hS; rw [List.foldl_append]
theorem sumS_append (s t : ByteArray) : sumS (s ++ t) = hS (sumS s) (bs t) := by
  unfold sumS; rw [bs_append, hS_append]
theorem hS_empty (h : Int) : hS h (bs ⟨#[]⟩) = h := rfl
set_option maxHeartbeats 4000000 in
theorem walk (w : World) (h : Int) (h0 : 0 ≤ h) (h1 : h ≤ 18446744073709551615) (s : ByteArray) (hsm : s.size ≤ 9223372036854775807) (t : ByteArray) (htm : t.size ≤ 9223372036854775807) (ht : Tab w) :
    Calls Tryd.prog 5 #[.int .u64 h, .string s, .string t] w fun e w' => e = .returned (.bool true) ∧ G w w' := by
  have HT := Lib.hid ht
  have hu : u64 h := ⟨h0, by omega⟩
  clear ht
  by_cases hbig : 1000 < s.size ∨ 1000 < t.size
  · have HB := Lib.hid hbig
    by_cases hs : 1000 < s.size
    · clear hbig HB
      go_enter Tryd.func5, Tryd.ntmps5
      go_wp2_with fail
      go_at_call 13
      refine (works_any _ HT.out).mono ?_
      rintro e w8 ⟨rfl, g8⟩
      go_wp2_with fail
      go_ret
      exact ⟨rfl, (by repeat (first | exact G.refl _ | refine G.alloc ?_ _ | refine G.drewN ?_ _ | refine G.drew ?_ | refine G.trans ?_ (by assumption)))⟩
    · have hs1 : s.size ≤ 1000 := by omega
      have ht1 : 1000 < t.size := by omega
      clear hbig HB hs
      go_enter Tryd.func5, Tryd.ntmps5
      go_wp2_with fail
      go_at_call 13
      refine (works_any _ HT.out).mono ?_
      rintro e w8 ⟨rfl, g8⟩
      go_wp2_with fail
      go_ret
      exact ⟨rfl, (by repeat (first | exact G.refl _ | refine G.alloc ?_ _ | refine G.drewN ?_ _ | refine G.drew ?_ | refine G.trans ?_ (by assumption)))⟩
  · have hs1 : s.size ≤ 1000 := by omega
    have ht1 : t.size ≤ 1000 := by omega
    have hs2 : s.size < 9223372036854775807 := by omega
    have ht2 : t.size < 9223372036854775807 := by omega
    have hst : (s ++ t).size < 9223372036854775807 := by rw [ByteArray.size_append]; omega
    have HST := Lib.hid hst
    have E1 := Lib.hid (bs_append s t)
    have E2 := Lib.hid (hS_append h (bs s) (bs t))
    have E3 := Lib.hid (sumS_append s t)
    clear hbig hsm htm hst
    go_enter Tryd.func5, Tryd.ntmps5
    go_wp2_with fail
    go_at_call 20
    refine (more_any h (s ++ t) hu HST.out _).mono ?_
    rintro e w1 ⟨rfl, g1⟩
    rw [E1.out, E2.out]
    go_wp2_with fail
    go_at_call 20
    refine (more_any h s hu hs2 _).mono ?_
    rintro e w2 ⟨rfl, g2⟩
    go_wp2_with fail
    go_at_call 20
    refine (more_any _ t (hS_bd hu _) ht2 _).mono ?_
    rintro e w3 ⟨rfl, g3⟩
    have gA := (g1.trans g2).trans g3
    clear g1 g2 g3
    go_wp2_with fail
    go_at_call 21
    refine (sum_any (s ++ t) HST.out _).mono ?_
    rintro e w4 ⟨rfl, g4⟩
    rw [E3.out]
    go_wp2_with fail
    go_at_call 21
    refine (sum_any s hs2 _).mono ?_
    rintro e w5 ⟨rfl, g5⟩
    go_wp2_with fail
    go_at_call 20
    refine (more_any _ t (sumS_bd s) ht2 _).mono ?_
    rintro e w6 ⟨rfl, g6⟩
    have gB := gA.trans ((g4.trans g5).trans g6)
    clear gA g4 g5 g6
    go_wp2_with fail
    go_at_call 20
    refine (more_any h _ hu (by decide) _).mono ?_
    rintro e w7 ⟨rfl, g7⟩
    have gC := gB.trans g7
    clear gB g7
    have E4 : Hid (hS h (bs ⟨#[]⟩) = h) := Lib.hid rfl
    rw [E4.out]
    go_wp2_with fail
    go_at_call 13
    refine (works_any _ (HT.out.g gC)).mono ?_
    rintro e w8 ⟨rfl, g8⟩
    have gE := gC.trans g8
    clear gC g8
    go_wp2_with fail
    go_ret
    exact ⟨rfl, gE⟩

set_option maxHeartbeats 2000000 in
theorem contract (H : Type) (enc : TypeId × Value → H) (W : World) (base : Nat) (args : Array Value) (ds gs : List (DataW H)) (before : List MemPlace)
    (hval : ∀ (j : Nat) t v, Tryd.f5.params[j]? = some t → args[j]? = some v → Value.okWide Tryd.prog W .any base t v)
    (hW : DataW.Whole enc Tryd.prog Tryd.f5.params.toList Rows.hashPartsSpec.vars false W args.toList ds gs before) (hL : laidMetH Tryd.prog Rows.hashPartsRow.laid W) :
    Calls Tryd.prog 5 args W fun e W' => ∃ v, e = .returned v ∧ Rows.hashPartsSpec.post enc Tryd.prog Tryd.f5 false true false false W args v W' := by
  have hW' := hW
  obtain ⟨p, q, hA0, hV, rfl, hfz, hnd⟩ := hW
  have hA : DataW.TrodAll enc Tryd.prog W 0 (fun _ => true) true Tryd.f5.params.toList args.toList ds p := hA0
  rw [Tryd.params5] at hA hval
  obtain ⟨v0, vs0, d0, ds0, p0, q0, hargs, rfl, rfl, h0, r0⟩ := trodAll_cons hA
  obtain ⟨v1, vs1, d1, ds1, p1, q1, rfl, rfl, rfl, h1, r1⟩ := trodAll_cons r0
  obtain ⟨v2, vs2, d2, ds2, p2, q2, rfl, rfl, rfl, h2, r2⟩ := trodAll_cons r1
  obtain ⟨rfl, rfl, rfl⟩ := trodAll_nil r2
  obtain rfl : args = #[v0, v1, v2] := by cases args; simp_all
  obtain ⟨a0, rfl, rfl, rfl, w0⟩ := open_int Tryd.underlying23 (hval 0 23 v0 rfl rfl) h0
  simp [Lit.wf, IntKind.min, IntKind.max, IntKind.bits, IntKind.signed] at w0
  obtain ⟨a1, rfl, rfl, rfl, w1⟩ := open_string Tryd.underlying9 (hval 1 9 v1 rfl rfl) h1
  obtain ⟨a2, rfl, rfl, rfl, w2⟩ := open_string Tryd.underlying9 (hval 2 9 v2 rfl rfl) h2
  refine (walk (w := W) a0 (by omega) (by omega) a1 w1 a2 w2 (tab_of hL)).mono fun e W' ⟨he, hg⟩ => ?_
  subst he
  exact ⟨_, rfl, law_post laidOut_ (by
    intro t ht
    rw [Tryd.params5] at ht
    simp at ht
    rcases ht with rfl | rfl <;> exact ⟨by kernel_rfl, by decide +kernel⟩) hW' rfl rfl (by kernel_rfl) Tryd.underlying4 hg⟩
theorem laid_met (os : Os) : laidMet Tryd.prog Rows.hashPartsRow.laid ((laidWorld os).forCall (fun _ _ => 0) ⟨#[], #[.int .u64 0, .string ByteArray.empty, .string ByteArray.empty], []⟩).memory :=
  laidMet_of_run' 8 (by kernel_rfl) (by kernel_rfl)
theorem reads (os : Os) {H : Type} (enc : TypeId × Value → H) : ∃ places, DataW.whole enc Tryd.prog ((laidWorld os).forCall (fun _ _ => 0) ⟨#[], #[.int .u64 0, .string ByteArray.empty, .string ByteArray.empty], []⟩).memory Tryd.f5.params.toList Rows.hashPartsSpec.vars false (#[.int .u64 0, .string ByteArray.empty, .string ByteArray.empty] : Array Value).toList 8 = some ([.lit (.int .u64 0), .lit (.string []), .lit (.string [])], [], places) :=
  ⟨[], by kernel_rfl⟩
set_option maxRecDepth 100000 in
theorem lifted (os : Os) (started : os.Started) (H : Type) (enc : TypeId × Value → H) (F : Stop.Interp) :
    ReturnsInHanded {} Tryd.checked os 5 .any ((OpenSpec.ofChange Rows.hashPartsSpec).preRow enc Tryd.prog Tryd.f5 Rows.hashPartsRow.domain false Rows.hashPartsRow.laid) (((OpenSpec.ofChange Rows.hashPartsSpec).at F).post enc Tryd.prog Tryd.f5 false true false false) := by
  obtain ⟨places, hx⟩ := reads os enc
  refine returnsInHanded_of_row (C := Tryd.checked) (s := OpenSpec.ofChange Rows.hashPartsSpec) own_ started (by kernel_rfl) Tryd.func5
    (witness_row_at (enc := enc) (C := Tryd.checked) false (laidWorld os) #[.int .u64 0, .string ByteArray.empty, .string ByteArray.empty] rfl (by kernel_rfl) (by kernel_rfl) (by kernel_rfl)
      (OpenSpec.preRow_of_cond 8 hx (by kernel_rfl) (fun k hk => by cases hk) (by kernel_rfl) (laid_met os))) ?_
  intro W base args ds gs before hval hW _ _ _ hL _ _
  exact contract H enc W base args ds gs before hval hW hL
theorem said : Rows.HashPartsSaid :=
  OpenClaim.holds_of_cond 5 Tryd.f5 rfl rfl rfl rfl rfl rfl rfl ⟨rfl, rfl, rfl, rfl, rfl⟩ rfl rfl rfl rfl rfl (by kernel_rfl) Tryd.func5 (by kernel_rfl)
    (of_decide_eq_true (by kernel_rfl)) (by unfold Func.isWrapper; first | (rw [if_pos (by decide +kernel)]; kernel_rfl) | (rw [if_neg (by decide +kernel)]; exact ⟨rfl, rfl⟩))
    (fun os started H enc _ F => by rw [OpenClaim.pre_eq_preRow]; exact lifted os started H enc F)
theorem plain (f : FuncId) (fn : Func) (hf : Tryd.pinned.checked.prog.funcNamed "wakeman/wakemanlaw28.HashParts" = some f) (hfn : Tryd.pinned.checked.prog.funcs[f]? = some fn) :
    false = Tryd.pinned.checked.prog.looks [] ∧ ∀ (j : Nat) t, fn.params[j]? = some t → Tryd.pinned.checked.prog.wantsStandIn t = false := by
  obtain rfl : f = 5 := Option.some.inj ((show Tryd.prog.funcNamed "wakeman/wakemanlaw28.HashParts" = some 5 by kernel_rfl).symm.trans hf) |>.symm
  obtain rfl : fn = Tryd.f5 := (Option.some.inj (Tryd.func5.symm.trans hfn)).symm
  refine ⟨by kernel_rfl, fun j t ht => ?_⟩
  rw [Tryd.params5] at ht
  have hm := Array.mem_of_getElem? ht
  simp at hm
  rcases hm with rfl | rfl
  · exact (show Tryd.prog.wantsStandIn 23 = false by kernel_rfl)
  · exact (show Tryd.prog.wantsStandIn 9 = false by kernel_rfl)
theorem card : Rows.HashPartsCardSaid :=
  Claim7.holds_tied_plain_at .later [] _ _ _ _ said (fun _ h => by cases h) (by kernel_rfl) (fun _ h => by cases h) hashParts_row_tie rfl ⟨rfl, rfl⟩ (by kernel_rfl) rfl plain (by kernel_rfl)
#print axioms card
end Go.Proofs.YtodijghpeikmoaaDoor.lawHashParts
