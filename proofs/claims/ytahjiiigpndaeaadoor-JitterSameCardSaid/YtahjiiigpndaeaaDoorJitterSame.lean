/-
  JitterSame: a job has as many equal jitters with itself as there are attempts; with another one, as many as their lists have; the order of both does not matter; with the lengths 0 and 1 all are equal.
  Conditions: none beyond the row's own (the table of package mix as the program's text lays it).
-/
import Derived.Test.YtahjiiigpndaeaaDoorTieM
import Derived.Test.YtahjiiigpndaeaaDoorJtN
set_option linter.unusedVariables false
set_option linter.unusedSimpArgs false
namespace Go.Proofs.YtahjiiigpndaeaaDoor.lawJitterSame
open Go.ChangeShapes Go.WideShapes Go.ChangeAt Go.RowKit

theorem nm_jnE (j d : Int) (m : Nat) (L : Int) (hd : 0 ≤ d ∧ d ≤ 253402300799) (hm : m ≤ 21) (hL : 0 ≤ L ∧ L ≤ 68719476736) : jnE (nmJ j) d m L = 0 := by
  unfold jnE jcE
  rw [if_pos (nmJ_ok j), if_pos hd, if_pos]
  refine ⟨by simp; omega, by omega, by omega⟩
theorem nm_smE (i j d : Int) (m : Nat) (L : Int) (hd : 0 ≤ d ∧ d ≤ 253402300799) (hm : m ≤ 21) (hL : 0 ≤ L ∧ L ≤ 68719476736) : smE (nmJ i) (nmJ j) d m L = 0 := by
  unfold smE
  rw [if_pos (nmJ_ok j)]
  exact nm_jnE i d m L hd hm hL
theorem nm_smV (a i j d : Int) (m : Nat) (L : Int) (hd : 0 ≤ d ∧ d ≤ 253402300799) (hm : m ≤ 21) (hL : 0 ≤ L ∧ L ≤ 68719476736) : smV a (nmJ i) (nmJ j) d m L = cntE (lstF a (nmJ i) d L) (lstF a (nmJ j) d L) m := by
  unfold smV
  rw [if_pos (nm_smE i j d m L hd hm hL), Int.toNat_natCast]
theorem cntE_comm (f g : Nat → Int) (k : Nat) : cntE f g k = cntE g f k := by
  induction k with
  | zero => rfl
  | succ k ih =>
    unfold cntE
    by_cases h : f k = g k
    · rw [if_pos h, if_pos h.symm, ih]
    · rw [if_neg h, if_neg (fun e => h e.symm), ih]
theorem jw_low (a : Int) (s : ByteArray) (d t L : Int) (h : L = 0 ∨ L = 1) : jw a s d t L = 0 := by
  rcases h with rfl | rfl
  · exact if_pos rfl
  · exact jw_one a s d t
theorem cntE_low (a : Int) (s t : ByteArray) (d L : Int) (h : L = 0 ∨ L = 1) (k : Nat) : cntE (lstF a s d L) (lstF a t d L) k = k := by
  rw [show lstF a s d L = fun _ => 0 from funext (fun i => jw_low a s d _ L h), show lstF a t d L = fun _ => 0 from funext (fun i => jw_low a t d _ L h)]
  exact cntE_self _ k
set_option maxRecDepth 20000 in
set_option maxHeartbeats 4000000 in
theorem walk (w : World) (a : Int) (a0 : 0 ≤ a) (a1 : a ≤ 18446744073709551615) (i : Int) (i0 : 0 ≤ i) (i1 : i ≤ 65535) (j : Int) (j0 : 0 ≤ j) (j1 : j ≤ 65535) (d : Int) (d0 : 0 ≤ d) (d1 : d ≤ 4294967295) (c : Int) (c0 : 0 ≤ c) (c1 : c ≤ 255) (l : Int) (l0 : 0 ≤ l) (l1 : l ≤ 18446744073709551615) (ht : Tab w) :
    Calls Tryd.prog 10 #[.int .u64 a, .int .u16 i, .int .u16 j, .int .u32 d, .int .u8 c, .int .u64 l] w fun e w' => e = .returned (.bool true) ∧ G w w' := by
  have HT := Lib.hid ht
  have hu : u64 a := ⟨a0, by omega⟩
  clear ht
  obtain ⟨m, hmm⟩ : ∃ m : Nat, c % 22 = m := ⟨(c % 22).toNat, by omega⟩
  obtain ⟨L, hLL⟩ : ∃ L, l % 68719476737 = L := ⟨_, rfl⟩
  have m1 : m ≤ 21 := by omega
  have L0 : 0 ≤ L := by omega
  have L1 : L ≤ 68719476736 := by omega
  obtain ⟨M, hMM⟩ : ∃ M, L % 2 = M := ⟨_, rfl⟩
  have M0 : 0 ≤ M := by omega
  have M1 : M ≤ 1 := by omega
  have hd : 0 ≤ d ∧ d ≤ 253402300799 := ⟨d0, by omega⟩
  have hL : 0 ≤ L ∧ L ≤ 68719476736 := ⟨L0, L1⟩
  have HE1 := Lib.hid (nm_smE i i d m L hd m1 hL)
  have HE2 := Lib.hid (nm_smE i j d m L hd m1 hL)
  have HE3 := Lib.hid (nm_smE j i d m L hd m1 hL)
  have HE4 := Lib.hid (nm_smE i j d m M hd m1 ⟨M0, by omega⟩)
  have HE5 := Lib.hid (nm_jnE i d m L hd m1 hL)
  have HE6 := Lib.hid (nm_jnE j d m L hd m1 hL)
  have HN5 : Hid (jnN (nmJ i) d m L = m) := Lib.hid (by rw [jnN_ok HE5.out, Int.toNat_natCast])
  have HN6 : Hid (jnN (nmJ j) d m L = m) := Lib.hid (by rw [jnN_ok HE6.out, Int.toNat_natCast])
  have HV1 : Hid (smV a (nmJ i) (nmJ i) d m L = m) := Lib.hid (by rw [nm_smV a i i d m L hd m1 hL, cntE_self])
  have HV2 := Lib.hid (nm_smV a i j d m L hd m1 hL)
  have HV3 : Hid (smV a (nmJ j) (nmJ i) d m L = cntE (lstF a (nmJ i) d L) (lstF a (nmJ j) d L) m) := Lib.hid (by rw [nm_smV a j i d m L hd m1 hL, cntE_comm])
  have HV4 : Hid (smV a (nmJ i) (nmJ j) d m M = m) := Lib.hid (by rw [nm_smV a i j d m M hd m1 ⟨M0, by omega⟩, cntE_low _ _ _ _ _ (by omega)])
  have HC : Hid (∀ k, cntE (lstF a (nmJ i) d L) (lstF a (nmJ j) d L) (k + 1) = if lstF a (nmJ i) d L k = lstF a (nmJ j) d L k then cntE (lstF a (nmJ i) d L) (lstF a (nmJ j) d L) k + 1 else cntE (lstF a (nmJ i) d L) (lstF a (nmJ j) d L) k) := Lib.hid (fun k => rfl)
  have HCL := Lib.hid (cntE_le (lstF a (nmJ i) d L) (lstF a (nmJ j) d L))
  clear hd hL
  obtain ⟨s, hs⟩ : ∃ s, nmJ i = s := ⟨_, rfl⟩
  obtain ⟨t, ht⟩ : ∃ t, nmJ j = t := ⟨_, rfl⟩
  have HNs := Lib.hid hs
  have HNt := Lib.hid ht
  rw [hs] at HE1 HE5 HN5 HV1
  rw [ht] at HE6 HN6
  rw [hs, ht] at HE2 HE3 HE4 HV2 HV3 HV4 HC HCL
  clear hs ht
  go_enter Tryd.func10, Tryd.ntmps10
  go_wp2_with fail
  go_at_call 24
  refine (named_any i i0 i1 _).mono ?_
  rintro e w1 ⟨rfl, g1⟩
  rw [HNs.out]
  go_wp2_with fail
  go_at_call 24
  refine (named_any j j0 j1 _).mono ?_
  rintro e w2 ⟨rfl, g2⟩
  rw [HNt.out]
  have gA := g1.trans g2
  clear g1 g2
  go_wp2_with fail
  try rw [hmm]
  try rw [hLL]
  clear hmm hLL
  go_at_call 18
  refine (jsame_any a s s d m L hu (by omega) (by omega) _ (HT.out.g gA)).mono ?_
  rintro e w3 ⟨rfl, g3⟩
  rw [HE1.out, HV1.out]
  replace gA := gA.trans g3
  clear g3
  go_wp2_with fail
  go_at_call 18
  refine (jsame_any a s t d m L hu (by omega) (by omega) _ (HT.out.g gA)).mono ?_
  rintro e w4 ⟨rfl, g4⟩
  rw [HE2.out, HV2.out]
  replace gA := gA.trans g4
  clear g4
  go_wp2_with fail
  go_at_call 18
  refine (jsame_any a t s d m L hu (by omega) (by omega) _ (HT.out.g gA)).mono ?_
  rintro e w5 ⟨rfl, g5⟩
  rw [HE3.out, HV3.out]
  replace gA := gA.trans g5
  clear g5
  go_wp2_with fail
  try rw [hMM]
  go_at_call 18
  refine (jsame_any a s t d m M hu (by omega) (by omega) _ (HT.out.g gA)).mono ?_
  rintro e w6 ⟨rfl, g6⟩
  rw [HE4.out, HV4.out]
  replace gA := gA.trans g6
  clear g6 hMM
  go_wp2_with fail
  go_at_call 15
  refine (jlist_any a s d m L hu (by omega) (by omega) _ (HT.out.g gA)).mono ?_
  rintro e w7 ⟨v7, rfl, r7, g7⟩
  rw [HE5.out]
  rw [HN5.out] at r7
  replace gA := gA.trans g7
  clear g7
  go_wp2_with fail
  go_at_call 15
  refine (jlist_any a t d m L hu (by omega) (by omega) _ (HT.out.g gA)).mono ?_
  rintro e w8 ⟨v8, rfl, r8, g8⟩
  rw [HE6.out]
  rw [HN6.out] at r8
  replace r7 := r7.g g8
  replace gA := gA.trans g8
  clear g8
  obtain ⟨A1, q1, rfl, hq1, hm1, hr1⟩ := r7
  obtain ⟨A2, q2, rfl, hq2, hm2, hr2⟩ := r8
  simp only [vI_len, jL_len] at hq1 hr1 hq2 hr2 ⊢
  have H1 : Hid (∀ k, k < m → ∃ b o, A1 = some ⟨b, o, none⟩ ∧ w8.cell? ⟨b, o + k, none⟩ = some (.int .i64 (lstF a s d L k))) := Lib.hid (fun k hk => by
    obtain ⟨b, o, e, h⟩ := hr1 (by omega)
    exact ⟨b, o, e, h k _ (jL_get a s d L hk)⟩)
  have H2 : Hid (∀ k, k < m → ∃ b o, A2 = some ⟨b, o, none⟩ ∧ w8.cell? ⟨b, o + k, none⟩ = some (.int .i64 (lstF a t d L k))) := Lib.hid (fun k hk => by
    obtain ⟨b, o, e, h⟩ := hr2 (by omega)
    exact ⟨b, o, e, h k _ (jL_get a t d L hk)⟩)
  clear hr1 hr2
  go_wp2_with fail
  go_loopw [29, 142] (fun cv kv wr => ∃ k : Nat, k ≤ m ∧ kv = .int .i64 k ∧ cv = .int .i64 (cntE (lstF a s d L) (lstF a t d L) k) ∧ G w8 wr) (fun _ kv _ => m - (intOf kv).toNat)
  case atStart => exact ⟨0, by omega, rfl, rfl, G.refl _⟩
  case round =>
    obtain ⟨k, hk, rfl, rfl, hg⟩ := hrel
    by_cases hlt : k < m
    · have hkm : (k : Int) < m := by omega
      obtain ⟨b, o, rfl, hc⟩ := H1.out k hlt
      obtain ⟨b2, o2, rfl, hc2⟩ := H2.out k hlt
      have e0 := hg.cell (World.block_lt_of_cell? w8 _ hc) hc
      have e1 := hg.cell (World.block_lt_of_cell? w8 _ hc2) hc2
      have HS := Lib.hid (HC.out k)
      have hcl := HCL.out k
      clear hc hc2
      generalize cntE (lstF a s d L) (lstF a t d L) k = q at *
      generalize lstF a s d L k = x at *
      generalize lstF a t d L k = y at *
      by_cases hxy : x = y
      · have HS2 := Lib.hid (HS.out.trans (if_pos hxy))
        subst hxy
        go_wp2_with fail
        go_quiet (fail)
        go_wp2_with fail
        go_roundw
        case rel => exact ⟨k + 1, by omega, by go_num, by rw [HS2.out]; go_num, (by repeat (first | exact G.refl _ | refine G.alloc ?_ _ | refine G.drewN ?_ _ | refine G.drew ?_ | refine G.trans ?_ (by assumption)))⟩
        case measure => simp [intOf]; omega
      · have HS2 := Lib.hid (HS.out.trans (if_neg hxy))
        have hb : (x == y) = false := by simpa using hxy
        go_wp2_with fail
        go_quiet (fail)
        go_wp2_with fail
        go_roundw
        case rel => exact ⟨k + 1, by omega, by go_num, by rw [HS2.out], (by repeat (first | exact G.refl _ | refine G.alloc ?_ _ | refine G.drewN ?_ _ | refine G.drew ?_ | refine G.trans ?_ (by assumption)))⟩
        case measure => simp [intOf]; omega
    · obtain rfl : k = m := by omega
      have hcl := HCL.out k
      generalize cntE (lstF a s d L) (lstF a t d L) k = q at *
      go_wp2_with fail
      go_at_call 19
      refine (works_any _ (HT.out.g (gA.trans hg))).mono ?_
      rintro e w9 ⟨rfl, g9⟩
      have gE := (gA.trans hg).trans g9
      go_wp2_with fail
      go_ret
      exact ⟨rfl, gE⟩

set_option maxHeartbeats 2000000 in
theorem contract (H : Type) (enc : TypeId × Value → H) (W : World) (base : Nat) (args : Array Value) (ds gs : List (DataW H)) (before : List MemPlace)
    (hval : ∀ (j : Nat) t v, Tryd.f10.params[j]? = some t → args[j]? = some v → Value.okWide Tryd.prog W .any base t v)
    (hW : DataW.Whole enc Tryd.prog Tryd.f10.params.toList Rows.jitterSameSpec.vars false W args.toList ds gs before) (hL : laidMetH Tryd.prog Rows.jitterSameRow.laid W) :
    Calls Tryd.prog 10 args W fun e W' => ∃ v, e = .returned v ∧ Rows.jitterSameSpec.post enc Tryd.prog Tryd.f10 false true false false W args v W' := by
  have hW' := hW
  obtain ⟨p, q, hA0, hV, rfl, hfz, hnd⟩ := hW
  have hA : DataW.TrodAll enc Tryd.prog W 0 (fun _ => true) true Tryd.f10.params.toList args.toList ds p := hA0
  rw [Tryd.params10] at hA hval
  obtain ⟨v0, vs0, d0, ds0, p0, q0, hargs, rfl, rfl, h0, r0⟩ := trodAll_cons hA
  obtain ⟨v1, vs1, d1, ds1, p1, q1, rfl, rfl, rfl, h1, r1⟩ := trodAll_cons r0
  obtain ⟨v2, vs2, d2, ds2, p2, q2, rfl, rfl, rfl, h2, r2⟩ := trodAll_cons r1
  obtain ⟨v3, vs3, d3, ds3, p3, q3, rfl, rfl, rfl, h3, r3⟩ := trodAll_cons r2
  obtain ⟨v4, vs4, d4, ds4, p4, q4, rfl, rfl, rfl, h4, r4⟩ := trodAll_cons r3
  obtain ⟨v5, vs5, d5, ds5, p5, q5, rfl, rfl, rfl, h5, r5⟩ := trodAll_cons r4
  obtain ⟨rfl, rfl, rfl⟩ := trodAll_nil r5
  obtain rfl : args = #[v0, v1, v2, v3, v4, v5] := by cases args; simp_all
  obtain ⟨a0, rfl, rfl, rfl, w0⟩ := open_int Tryd.underlying22 (hval 0 22 v0 rfl rfl) h0
  simp [Lit.wf, IntKind.min, IntKind.max, IntKind.bits, IntKind.signed] at w0
  obtain ⟨a1, rfl, rfl, rfl, w1⟩ := open_int Tryd.underlying41 (hval 1 41 v1 rfl rfl) h1
  simp [Lit.wf, IntKind.min, IntKind.max, IntKind.bits, IntKind.signed] at w1
  obtain ⟨a2, rfl, rfl, rfl, w2⟩ := open_int Tryd.underlying41 (hval 2 41 v2 rfl rfl) h2
  simp [Lit.wf, IntKind.min, IntKind.max, IntKind.bits, IntKind.signed] at w2
  obtain ⟨a3, rfl, rfl, rfl, w3⟩ := open_int Tryd.underlying42 (hval 3 42 v3 rfl rfl) h3
  simp [Lit.wf, IntKind.min, IntKind.max, IntKind.bits, IntKind.signed] at w3
  obtain ⟨a4, rfl, rfl, rfl, w4⟩ := open_int Tryd.underlying5 (hval 4 5 v4 rfl rfl) h4
  simp [Lit.wf, IntKind.min, IntKind.max, IntKind.bits, IntKind.signed] at w4
  obtain ⟨a5, rfl, rfl, rfl, w5⟩ := open_int Tryd.underlying22 (hval 5 22 v5 rfl rfl) h5
  simp [Lit.wf, IntKind.min, IntKind.max, IntKind.bits, IntKind.signed] at w5
  refine (walk (w := W) a0 (by omega) (by omega) a1 (by omega) (by omega) a2 (by omega) (by omega) a3 (by omega) (by omega) a4 (by omega) (by omega) a5 (by omega) (by omega) (tab_of hL)).mono fun e W' ⟨he, hg⟩ => ?_
  subst he
  exact ⟨_, rfl, law_post laidOut_ (by
    intro t ht
    rw [Tryd.params10] at ht
    simp at ht
    rcases ht with rfl | rfl | rfl | rfl | rfl <;> exact ⟨by kernel_rfl, by decide +kernel⟩) hW' rfl rfl (by kernel_rfl) Tryd.underlying4 hg⟩
theorem laid_met (os : Os) : laidMet Tryd.prog Rows.jitterSameRow.laid ((laidWorld os).forCall (fun _ _ => 0) ⟨#[], #[.int .u64 0, .int .u16 0, .int .u16 0, .int .u32 0, .int .u8 0, .int .u64 0], []⟩).memory :=
  laidMet_of_run' 8 (by kernel_rfl) (by kernel_rfl)
theorem reads (os : Os) {H : Type} (enc : TypeId × Value → H) : ∃ places, DataW.whole enc Tryd.prog ((laidWorld os).forCall (fun _ _ => 0) ⟨#[], #[.int .u64 0, .int .u16 0, .int .u16 0, .int .u32 0, .int .u8 0, .int .u64 0], []⟩).memory Tryd.f10.params.toList Rows.jitterSameSpec.vars false (#[.int .u64 0, .int .u16 0, .int .u16 0, .int .u32 0, .int .u8 0, .int .u64 0] : Array Value).toList 8 = some ([.lit (.int .u64 0), .lit (.int .u16 0), .lit (.int .u16 0), .lit (.int .u32 0), .lit (.int .u8 0), .lit (.int .u64 0)], [], places) :=
  ⟨[], by kernel_rfl⟩
set_option maxRecDepth 100000 in
theorem lifted (os : Os) (started : os.Started) (H : Type) (enc : TypeId × Value → H) (F : Stop.Interp) :
    ReturnsInHanded {} Tryd.checked os 10 .any ((OpenSpec.ofChange Rows.jitterSameSpec).preRow enc Tryd.prog Tryd.f10 Rows.jitterSameRow.domain false Rows.jitterSameRow.laid) (((OpenSpec.ofChange Rows.jitterSameSpec).at F).post enc Tryd.prog Tryd.f10 false true false false) := by
  obtain ⟨places, hx⟩ := reads os enc
  refine returnsInHanded_of_row (C := Tryd.checked) (s := OpenSpec.ofChange Rows.jitterSameSpec) own_ started (by kernel_rfl) Tryd.func10
    (witness_row_at (enc := enc) (C := Tryd.checked) false (laidWorld os) #[.int .u64 0, .int .u16 0, .int .u16 0, .int .u32 0, .int .u8 0, .int .u64 0] rfl (by kernel_rfl) (by kernel_rfl) (by kernel_rfl)
      (OpenSpec.preRow_of_cond 8 hx (by kernel_rfl) (fun k hk => by cases hk) (by kernel_rfl) (laid_met os))) ?_
  intro W base args ds gs before hval hW _ _ _ hL _ _
  exact contract H enc W base args ds gs before hval hW hL
theorem said : Rows.JitterSameSaid :=
  OpenClaim.holds_of_cond 10 Tryd.f10 rfl rfl rfl rfl rfl rfl rfl ⟨rfl, rfl, rfl, rfl, rfl⟩ rfl rfl rfl rfl rfl (by kernel_rfl) Tryd.func10 (by kernel_rfl)
    (of_decide_eq_true (by kernel_rfl)) (by unfold Func.isWrapper; first | (rw [if_pos (by decide +kernel)]; kernel_rfl) | (rw [if_neg (by decide +kernel)]; exact ⟨rfl, rfl⟩))
    (fun os started H enc _ F => by rw [OpenClaim.pre_eq_preRow]; exact lifted os started H enc F)
theorem plain (f : FuncId) (fn : Func) (hf : Tryd.pinned.checked.prog.funcNamed "wakeman/wakemanlaw29.JitterSame" = some f) (hfn : Tryd.pinned.checked.prog.funcs[f]? = some fn) :
    false = Tryd.pinned.checked.prog.looks [] ∧ ∀ (j : Nat) t, fn.params[j]? = some t → Tryd.pinned.checked.prog.wantsStandIn t = false := by
  obtain rfl : f = 10 := Option.some.inj ((show Tryd.prog.funcNamed "wakeman/wakemanlaw29.JitterSame" = some 10 by kernel_rfl).symm.trans hf) |>.symm
  obtain rfl : fn = Tryd.f10 := (Option.some.inj (Tryd.func10.symm.trans hfn)).symm
  refine ⟨by kernel_rfl, fun j t ht => ?_⟩
  rw [Tryd.params10] at ht
  have hm := Array.mem_of_getElem? ht
  simp at hm
  rcases hm with rfl | rfl | rfl | rfl | rfl
  · exact (show Tryd.prog.wantsStandIn 22 = false by kernel_rfl)
  · exact (show Tryd.prog.wantsStandIn 41 = false by kernel_rfl)
  · exact (show Tryd.prog.wantsStandIn 42 = false by kernel_rfl)
  · exact (show Tryd.prog.wantsStandIn 5 = false by kernel_rfl)
  · exact (show Tryd.prog.wantsStandIn 22 = false by kernel_rfl)
theorem card : Rows.JitterSameCardSaid :=
  Claim7.holds_tied_plain_at .later [] _ _ _ _ said (fun _ h => by cases h) (by kernel_rfl) (fun _ h => by cases h) jitterSame_row_tie rfl ⟨rfl, rfl⟩ (by kernel_rfl) rfl plain (by kernel_rfl)
#print axioms card
end Go.Proofs.YtahjiiigpndaeaaDoor.lawJitterSame
