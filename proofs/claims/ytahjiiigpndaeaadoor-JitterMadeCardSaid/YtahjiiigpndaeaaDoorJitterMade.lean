/-
  JitterMade: a jitter is what the hash of the attempt stands for below the length.
  Conditions: none beyond the row's own (the table of package mix as the program's text lays it).
-/
import Derived.Test.YtahjiiigpndaeaaDoorTieM
import Derived.Test.YtahjiiigpndaeaaDoorJtN
set_option linter.unusedVariables false
set_option linter.unusedSimpArgs false
namespace Go.Proofs.YtahjiiigpndaeaaDoor.lawJitterMade
open Go.ChangeShapes Go.WideShapes Go.ChangeAt Go.RowKit

theorem made_ok (j t k L : Int) (ht : 0 ≤ t ∧ t ≤ 253402300799) (hk : 1 ≤ k ∧ k ≤ 21) (hL : 1 ≤ L ∧ L ≤ 68719476736) : jwE (nmJ j) t k L = 0 := by
  unfold jwE jcE
  rw [if_pos (nmJ_ok j), if_pos ht, if_pos]
  refine ⟨by simp; omega, by omega, by omega⟩
theorem made_val (a j t k L : Int) (ht : 0 ≤ t ∧ t ≤ 253402300799) (hk : 1 ≤ k ∧ k ≤ 21) (hL : 1 ≤ L ∧ L ≤ 68719476736) : jwV a (nmJ j) t k L = hiI (mixI (keyI a (nmJ j) t k)) L := by
  unfold jwV
  rw [if_pos (made_ok j t k L ht hk hL)]
  unfold jw
  rw [if_neg (by omega)]
set_option maxRecDepth 20000 in
set_option maxHeartbeats 4000000 in
theorem walk (w : World) (a : Int) (a0 : 0 ≤ a) (a1 : a ≤ 18446744073709551615) (j : Int) (j0 : 0 ≤ j) (j1 : j ≤ 65535) (u : Int) (u0 : 0 ≤ u) (u1 : u ≤ 18446744073709551615) (c : Int) (c0 : 0 ≤ c) (c1 : c ≤ 255) (l : Int) (l0 : 0 ≤ l) (l1 : l ≤ 18446744073709551615) (ht : Tab w) :
    Calls Tryd.prog 8 #[.int .u64 a, .int .u16 j, .int .u64 u, .int .u8 c, .int .u64 l] w fun e w' => e = .returned (.bool true) ∧ G w w' := by
  have HT := Lib.hid ht
  have hu : u64 a := ⟨a0, by omega⟩
  clear ht
  have HS := Lib.hid (nmJ_size j)
  obtain ⟨t, htt⟩ : ∃ t, u % 253402300800 = t := ⟨_, rfl⟩
  obtain ⟨k, hkk⟩ : ∃ k, c % 21 = k := ⟨_, rfl⟩
  obtain ⟨m, hmm⟩ : ∃ m, l % 68719476736 = m := ⟨_, rfl⟩
  have t0 : 0 ≤ t := by omega
  have t1 : t ≤ 253402300799 := by omega
  have k0 : 0 ≤ k := by omega
  have k1 : k ≤ 20 := by omega
  have m0 : 0 ≤ m := by omega
  have m1 : m ≤ 68719476735 := by omega
  have HE := Lib.hid (made_ok j t (1 + k) (m + 1) ⟨t0, t1⟩ (by omega) (by omega))
  have HV := Lib.hid (made_val a j t (1 + k) (m + 1) ⟨t0, t1⟩ (by omega) (by omega))
  have hb := hiI_bd (mixI (keyI a (nmJ j) t (1 + k))) (m + 1) (mixI_bd _).1 (mixI_bd _).2 (by omega)
  obtain ⟨s, hs⟩ : ∃ s, nmJ j = s := ⟨_, rfl⟩
  have HN := Lib.hid hs
  rw [hs] at HS HE HV hb
  clear hs
  generalize hX : hiI (mixI (keyI a s t (1 + k))) (m + 1) = X at *
  have HX := Lib.hid hX
  clear hX
  obtain ⟨b0, b1⟩ := hb
  have b2 : X ≤ 68719476736 := by omega
  clear b1
  go_enter Tryd.func8, Tryd.ntmps8
  go_wp2_with fail
  go_at_call 24
  refine (named_any j j0 j1 _).mono ?_
  rintro e w1 ⟨rfl, g1⟩
  go_wp2_with fail
  rw [HN.out]
  have hs2 : s.size < 9223372036854775807 := by rw [HS.out]; decide
  have HS2 := Lib.hid hs2
  clear hs2
  go_at_call 27
  refine (key_any a s t (1 + k) hu HS2.out (by omega) (by omega) (by omega) (by omega) _).mono ?_
  rintro e w2 ⟨rfl, g2⟩
  have gA := g1.trans g2
  clear g1 g2
  go_wp2_with fail
  go_at_call 26
  refine (mix_any _ (keyI_bd a s t (1 + k)).1 (keyI_bd a s t (1 + k)).2 _ (HT.out.g gA)).mono ?_
  rintro e w3 ⟨rfl, g3⟩
  replace gA := gA.trans g3
  clear g3
  go_wp2_with fail
  go_at_call 25
  refine (below_any _ (m + 1) (mixI_bd _).1 (mixI_bd _).2 (by omega) (by omega) _).mono ?_
  rintro e w4 ⟨rfl, rfl⟩
  rw [HX.out]
  go_wp2_with fail
  go_at_call 14
  refine (wait_any a s t (1 + k) (m + 1) hu (by omega) (by omega) _ (HT.out.g gA)).mono ?_
  rintro e w5 ⟨rfl, g5⟩
  rw [HE.out, HV.out]
  replace gA := gA.trans g5
  clear g5
  go_wp2_with fail
  go_at_call 19
  refine (works_any _ (HT.out.g gA)).mono ?_
  rintro e w6 ⟨rfl, g6⟩
  replace gA := gA.trans g6
  clear g6
  go_wp2_with fail
  go_ret
  exact ⟨rfl, gA⟩

set_option maxHeartbeats 2000000 in
theorem contract (H : Type) (enc : TypeId × Value → H) (W : World) (base : Nat) (args : Array Value) (ds gs : List (DataW H)) (before : List MemPlace)
    (hval : ∀ (j : Nat) t v, Tryd.f8.params[j]? = some t → args[j]? = some v → Value.okWide Tryd.prog W .any base t v)
    (hW : DataW.Whole enc Tryd.prog Tryd.f8.params.toList Rows.jitterMadeSpec.vars false W args.toList ds gs before) (hL : laidMetH Tryd.prog Rows.jitterMadeRow.laid W) :
    Calls Tryd.prog 8 args W fun e W' => ∃ v, e = .returned v ∧ Rows.jitterMadeSpec.post enc Tryd.prog Tryd.f8 false true false false W args v W' := by
  have hW' := hW
  obtain ⟨p, q, hA0, hV, rfl, hfz, hnd⟩ := hW
  have hA : DataW.TrodAll enc Tryd.prog W 0 (fun _ => true) true Tryd.f8.params.toList args.toList ds p := hA0
  rw [Tryd.params8] at hA hval
  obtain ⟨v0, vs0, d0, ds0, p0, q0, hargs, rfl, rfl, h0, r0⟩ := trodAll_cons hA
  obtain ⟨v1, vs1, d1, ds1, p1, q1, rfl, rfl, rfl, h1, r1⟩ := trodAll_cons r0
  obtain ⟨v2, vs2, d2, ds2, p2, q2, rfl, rfl, rfl, h2, r2⟩ := trodAll_cons r1
  obtain ⟨v3, vs3, d3, ds3, p3, q3, rfl, rfl, rfl, h3, r3⟩ := trodAll_cons r2
  obtain ⟨v4, vs4, d4, ds4, p4, q4, rfl, rfl, rfl, h4, r4⟩ := trodAll_cons r3
  obtain ⟨rfl, rfl, rfl⟩ := trodAll_nil r4
  obtain rfl : args = #[v0, v1, v2, v3, v4] := by cases args; simp_all
  obtain ⟨a0, rfl, rfl, rfl, w0⟩ := open_int Tryd.underlying22 (hval 0 22 v0 rfl rfl) h0
  simp [Lit.wf, IntKind.min, IntKind.max, IntKind.bits, IntKind.signed] at w0
  obtain ⟨a1, rfl, rfl, rfl, w1⟩ := open_int Tryd.underlying41 (hval 1 41 v1 rfl rfl) h1
  simp [Lit.wf, IntKind.min, IntKind.max, IntKind.bits, IntKind.signed] at w1
  obtain ⟨a2, rfl, rfl, rfl, w2⟩ := open_int Tryd.underlying22 (hval 2 22 v2 rfl rfl) h2
  simp [Lit.wf, IntKind.min, IntKind.max, IntKind.bits, IntKind.signed] at w2
  obtain ⟨a3, rfl, rfl, rfl, w3⟩ := open_int Tryd.underlying5 (hval 3 5 v3 rfl rfl) h3
  simp [Lit.wf, IntKind.min, IntKind.max, IntKind.bits, IntKind.signed] at w3
  obtain ⟨a4, rfl, rfl, rfl, w4⟩ := open_int Tryd.underlying22 (hval 4 22 v4 rfl rfl) h4
  simp [Lit.wf, IntKind.min, IntKind.max, IntKind.bits, IntKind.signed] at w4
  refine (walk (w := W) a0 (by omega) (by omega) a1 (by omega) (by omega) a2 (by omega) (by omega) a3 (by omega) (by omega) a4 (by omega) (by omega) (tab_of hL)).mono fun e W' ⟨he, hg⟩ => ?_
  subst he
  exact ⟨_, rfl, law_post laidOut_ (by
    intro t ht
    rw [Tryd.params8] at ht
    simp at ht
    rcases ht with rfl | rfl | rfl | rfl | rfl <;> exact ⟨by kernel_rfl, by decide +kernel⟩) hW' rfl rfl (by kernel_rfl) Tryd.underlying4 hg⟩
theorem laid_met (os : Os) : laidMet Tryd.prog Rows.jitterMadeRow.laid ((laidWorld os).forCall (fun _ _ => 0) ⟨#[], #[.int .u64 0, .int .u16 0, .int .u64 0, .int .u8 0, .int .u64 0], []⟩).memory :=
  laidMet_of_run' 8 (by kernel_rfl) (by kernel_rfl)
theorem reads (os : Os) {H : Type} (enc : TypeId × Value → H) : ∃ places, DataW.whole enc Tryd.prog ((laidWorld os).forCall (fun _ _ => 0) ⟨#[], #[.int .u64 0, .int .u16 0, .int .u64 0, .int .u8 0, .int .u64 0], []⟩).memory Tryd.f8.params.toList Rows.jitterMadeSpec.vars false (#[.int .u64 0, .int .u16 0, .int .u64 0, .int .u8 0, .int .u64 0] : Array Value).toList 8 = some ([.lit (.int .u64 0), .lit (.int .u16 0), .lit (.int .u64 0), .lit (.int .u8 0), .lit (.int .u64 0)], [], places) :=
  ⟨[], by kernel_rfl⟩
set_option maxRecDepth 100000 in
theorem lifted (os : Os) (started : os.Started) (H : Type) (enc : TypeId × Value → H) (F : Stop.Interp) :
    ReturnsInHanded {} Tryd.checked os 8 .any ((OpenSpec.ofChange Rows.jitterMadeSpec).preRow enc Tryd.prog Tryd.f8 Rows.jitterMadeRow.domain false Rows.jitterMadeRow.laid) (((OpenSpec.ofChange Rows.jitterMadeSpec).at F).post enc Tryd.prog Tryd.f8 false true false false) := by
  obtain ⟨places, hx⟩ := reads os enc
  refine returnsInHanded_of_row (C := Tryd.checked) (s := OpenSpec.ofChange Rows.jitterMadeSpec) own_ started (by kernel_rfl) Tryd.func8
    (witness_row_at (enc := enc) (C := Tryd.checked) false (laidWorld os) #[.int .u64 0, .int .u16 0, .int .u64 0, .int .u8 0, .int .u64 0] rfl (by kernel_rfl) (by kernel_rfl) (by kernel_rfl)
      (OpenSpec.preRow_of_cond 8 hx (by kernel_rfl) (fun k hk => by cases hk) (by kernel_rfl) (laid_met os))) ?_
  intro W base args ds gs before hval hW _ _ _ hL _ _
  exact contract H enc W base args ds gs before hval hW hL
theorem said : Rows.JitterMadeSaid :=
  OpenClaim.holds_of_cond 8 Tryd.f8 rfl rfl rfl rfl rfl rfl rfl ⟨rfl, rfl, rfl, rfl, rfl⟩ rfl rfl rfl rfl rfl (by kernel_rfl) Tryd.func8 (by kernel_rfl)
    (of_decide_eq_true (by kernel_rfl)) (by unfold Func.isWrapper; first | (rw [if_pos (by decide +kernel)]; kernel_rfl) | (rw [if_neg (by decide +kernel)]; exact ⟨rfl, rfl⟩))
    (fun os started H enc _ F => by rw [OpenClaim.pre_eq_preRow]; exact lifted os started H enc F)
theorem plain (f : FuncId) (fn : Func) (hf : Tryd.pinned.checked.prog.funcNamed "wakeman/wakemanlaw29.JitterMade" = some f) (hfn : Tryd.pinned.checked.prog.funcs[f]? = some fn) :
    false = Tryd.pinned.checked.prog.looks [] ∧ ∀ (j : Nat) t, fn.params[j]? = some t → Tryd.pinned.checked.prog.wantsStandIn t = false := by
  obtain rfl : f = 8 := Option.some.inj ((show Tryd.prog.funcNamed "wakeman/wakemanlaw29.JitterMade" = some 8 by kernel_rfl).symm.trans hf) |>.symm
  obtain rfl : fn = Tryd.f8 := (Option.some.inj (Tryd.func8.symm.trans hfn)).symm
  refine ⟨by kernel_rfl, fun j t ht => ?_⟩
  rw [Tryd.params8] at ht
  have hm := Array.mem_of_getElem? ht
  simp at hm
  rcases hm with rfl | rfl | rfl | rfl | rfl
  · exact (show Tryd.prog.wantsStandIn 22 = false by kernel_rfl)
  · exact (show Tryd.prog.wantsStandIn 41 = false by kernel_rfl)
  · exact (show Tryd.prog.wantsStandIn 22 = false by kernel_rfl)
  · exact (show Tryd.prog.wantsStandIn 5 = false by kernel_rfl)
  · exact (show Tryd.prog.wantsStandIn 22 = false by kernel_rfl)
theorem card : Rows.JitterMadeCardSaid :=
  Claim7.holds_tied_plain_at .later [] _ _ _ _ said (fun _ h => by cases h) (by kernel_rfl) (fun _ h => by cases h) jitterMade_row_tie rfl ⟨rfl, rfl⟩ (by kernel_rfl) rfl plain (by kernel_rfl)
#print axioms card
end Go.Proofs.YtahjiiigpndaeaaDoor.lawJitterMade
