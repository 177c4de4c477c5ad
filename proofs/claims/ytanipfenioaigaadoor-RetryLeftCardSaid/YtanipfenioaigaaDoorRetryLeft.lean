/-
  RetryLeft: Left counts down to 0, and the attempt that has none left has no next one.
  Conditions: none beyond the row's own (the table of package mix as the program's text lays it).
-/
import Derived.Test.YtanipfenioaigaaDoorTieD
import Derived.Test.YtanipfenioaigaaDoorRtY
import Derived.Deep.RegionHeld3
set_option linter.unusedVariables false
set_option linter.unusedSimpArgs false
namespace Go.Proofs.YtanipfenioaigaaDoor.lawRetryLeft
open Go.ChangeShapes Go.WideShapes Go.ChangeAt Go.RowKit
set_option maxRecDepth 4000 in
set_option maxHeartbeats 8000000 in
theorem walk (w : World) (a b c e : Int) (ra : 0 ≤ a ∧ a ≤ 255) (rb : 0 ≤ b ∧ b ≤ 65535) (rc : 0 ≤ c ∧ c ≤ 65535) (re : 0 ≤ e ∧ e ≤ 65535) (n : Int) (n0 : 0 ≤ n) (n1 : n ≤ 255) (hT : Tab w) :
    Calls Tryd.prog 9 #[.agg #[.int .u8 a, .int .u16 b, .int .u16 c, .int .u16 e], .int .u8 n] w fun e w' => e = .returned (.bool true) ∧ G w w' := by
  have HT := Lib.hid hT
  obtain ⟨M, B, C, J, hok, ⟨m0, m1⟩, ⟨j0, j1⟩, hmd⟩ := made_ex a b c e ra rb rc re
  have HMd := Lib.hid hmd
  clear hT hmd
  obtain ⟨j, hj⟩ : ∃ j, n.tmod (M + 1) = j := ⟨_, rfl⟩
  have hj0 : 0 ≤ j := by rw [← hj]; exact Int.tmod_nonneg _ n0
  have hj1 : j ≤ M := by have := Int.tmod_lt_of_pos n (show 0 < M + 1 by omega); omega
  have hnz : (M + 1 == 0) = false := by simp; omega
  have hE : rtE M B C J ⟨#[120]⟩ 0 9 = 0 := by unfold rtE; rw [if_pos hok, if_pos (by decide +kernel), if_pos (by decide)]
  have HE1 : Hid (lfE M B C J (1 + j) = 0) := Lib.hid (by unfold lfE; rw [if_pos hok, if_pos (by omega)])
  have HV1 : Hid (lfV M B C J (1 + j) = M + 1 - (1 + j)) := Lib.hid (if_pos ⟨hok, by omega, by omega⟩)
  have HNE : Hid (nxE M B C J ⟨#[120]⟩ 0 (1 + j) 9 = 0) := Lib.hid ((if_pos hE).trans HE1.out)
  obtain ⟨V, hV⟩ : ∃ V, nxV M B C J 1 ⟨#[120]⟩ 0 (1 + j) 9 = V := ⟨_, rfl⟩
  have HVV := Lib.hid hV
  clear hV hE
  by_cases hlt : j < M
  · have HNB : Hid (nxB M B C J ⟨#[120]⟩ 0 (1 + j) 9 = true) := Lib.hid (decide_eq_true ⟨HNE.out, by omega⟩)
    have HE2 : Hid (lfE M B C J (1 + j + 1) = 0) := Lib.hid (by unfold lfE; rw [if_pos hok, if_pos (by omega)])
    obtain ⟨Z, hZ⟩ : ∃ Z, M + 1 - (1 + j) = Z := ⟨_, rfl⟩
    have HV2 : Hid (lfV M B C J (1 + j + 1) = Z - 1) := Lib.hid ((if_pos ⟨hok, by omega, by omega⟩).trans (by omega))
    have hp : 0 < Z := by omega
    have hp2 : Z ≤ 21 := by omega
    rw [hZ] at HV1
    have hz1 : (Z == 0) = false := by simp; omega
    clear hok
    go_enter Tryd.func9, Tryd.ntmps9
    go_wp2_with fail
    go_at_call 27
    refine (HMd.out _).mono ?_
    rintro e0 w1 ⟨rfl, g1⟩
    have bR := Blk.new w1 23 #[.int .i64 M, .int .i64 B, .int .i64 C, .int .i64 J]
    have gA : G w (w1.alloc (.cells #[.int .i64 M, .int .i64 B, .int .i64 C, .int .i64 J] 23)) := (((G.refl w).alloc _).trans g1).alloc _
    have hkw : w.heap.size ≤ w1.heap.size := by have := g1.size; rw [World.size_alloc] at this; omega
    clear g1
    have c0 : (w1.alloc (.cells #[.int .i64 M, .int .i64 B, .int .i64 C, .int .i64 J] 23)).cell? ⟨w1.heap.size, 0, none⟩ = some (.int .i64 M) := bR.cell 0
    have c1 : (w1.alloc (.cells #[.int .i64 M, .int .i64 B, .int .i64 C, .int .i64 J] 23)).cell? ⟨w1.heap.size, 1, none⟩ = some (.int .i64 B) := bR.cell 1
    have c2 : (w1.alloc (.cells #[.int .i64 M, .int .i64 B, .int .i64 C, .int .i64 J] 23)).cell? ⟨w1.heap.size, 2, none⟩ = some (.int .i64 C) := bR.cell 2
    have c3 : (w1.alloc (.cells #[.int .i64 M, .int .i64 B, .int .i64 C, .int .i64 J] 23)).cell? ⟨w1.heap.size, 3, none⟩ = some (.int .i64 J) := bR.cell 3
    go_wp2_with fail
    generalize w1.alloc (.cells #[.int .i64 M, .int .i64 B, .int .i64 C, .int .i64 J] 23) = w2 at *
    generalize w1.heap.size = kR at *
    go_at_call 25
    refine (left_any M B C J (1 + j) _).mono ?_
    rintro e0 w3 ⟨rfl, gx⟩
    rw [HE1.out, HV1.out]
    replace gA := gA.trans gx
    replace bR := bR.g gx
    clear c0 c1 c2 c3 gx
    have c0 : w3.cell? ⟨kR, 0, none⟩ = some (.int .i64 M) := bR.cell 0
    have c1 : w3.cell? ⟨kR, 1, none⟩ = some (.int .i64 B) := bR.cell 1
    have c2 : w3.cell? ⟨kR, 2, none⟩ = some (.int .i64 C) := bR.cell 2
    have c3 : w3.cell? ⟨kR, 3, none⟩ = some (.int .i64 J) := bR.cell 3
    go_wp2_with fail
    go_at_call 17
    refine (next_any M B C J 1 _ 0 (1 + j) 9 ⟨by decide, by decide⟩ (by omega) (by omega) _ (HT.out.g gA)).mono ?_
    rintro e0 w4 ⟨rfl, gx⟩
    rw [HVV.out, HNB.out, HNE.out]
    replace gA := gA.trans gx
    replace bR := bR.g gx
    clear c0 c1 c2 c3 gx
    have c0 : w4.cell? ⟨kR, 0, none⟩ = some (.int .i64 M) := bR.cell 0
    have c1 : w4.cell? ⟨kR, 1, none⟩ = some (.int .i64 B) := bR.cell 1
    have c2 : w4.cell? ⟨kR, 2, none⟩ = some (.int .i64 C) := bR.cell 2
    have c3 : w4.cell? ⟨kR, 3, none⟩ = some (.int .i64 J) := bR.cell 3
    go_wp2_with fail
    go_at_call 25
    refine (left_any M B C J (1 + j + 1) _).mono ?_
    rintro e0 w5 ⟨rfl, gx⟩
    rw [HE2.out, HV2.out]
    replace gA := gA.trans gx
    replace bR := bR.g gx
    clear c0 c1 c2 c3 gx
    have c0 : w5.cell? ⟨kR, 0, none⟩ = some (.int .i64 M) := bR.cell 0
    have c1 : w5.cell? ⟨kR, 1, none⟩ = some (.int .i64 B) := bR.cell 1
    have c2 : w5.cell? ⟨kR, 2, none⟩ = some (.int .i64 C) := bR.cell 2
    have c3 : w5.cell? ⟨kR, 3, none⟩ = some (.int .i64 J) := bR.cell 3
    go_wp2_with fail
    go_at_call 12
    refine (works_any _ (HT.out.g gA)).mono ?_
    rintro e0 w99 ⟨rfl, g99⟩
    replace gA := gA.trans g99
    clear g99
    go_wp2_with fail
    go_ret
    exact ⟨rfl, gA⟩
  · obtain rfl : j = M := by omega
    have HNB : Hid (nxB j B C J ⟨#[120]⟩ 0 (1 + j) 9 = false) := Lib.hid (decide_eq_false (fun h => by have := h.2; omega))
    have HE2 : Hid (lfE j B C J (1 + j + 1) = 3) := Lib.hid (by unfold lfE; rw [if_pos hok, if_neg (by omega)])
    have HV2 : Hid (lfV j B C J (1 + j + 1) = 0) := Lib.hid (if_neg (fun h => by omega))
    replace HV1 : Hid (lfV j B C J (1 + j) = 0) := Lib.hid (HV1.out.trans (by omega))
    have hz : j + 1 - (1 + j) = 0 := by omega
    clear hok
    go_enter Tryd.func9, Tryd.ntmps9
    go_wp2_with fail
    go_at_call 27
    refine (HMd.out _).mono ?_
    rintro e0 w1 ⟨rfl, g1⟩
    have bR := Blk.new w1 23 #[.int .i64 j, .int .i64 B, .int .i64 C, .int .i64 J]
    have gA : G w (w1.alloc (.cells #[.int .i64 j, .int .i64 B, .int .i64 C, .int .i64 J] 23)) := (((G.refl w).alloc _).trans g1).alloc _
    have hkw : w.heap.size ≤ w1.heap.size := by have := g1.size; rw [World.size_alloc] at this; omega
    clear g1
    have c0 : (w1.alloc (.cells #[.int .i64 j, .int .i64 B, .int .i64 C, .int .i64 J] 23)).cell? ⟨w1.heap.size, 0, none⟩ = some (.int .i64 j) := bR.cell 0
    have c1 : (w1.alloc (.cells #[.int .i64 j, .int .i64 B, .int .i64 C, .int .i64 J] 23)).cell? ⟨w1.heap.size, 1, none⟩ = some (.int .i64 B) := bR.cell 1
    have c2 : (w1.alloc (.cells #[.int .i64 j, .int .i64 B, .int .i64 C, .int .i64 J] 23)).cell? ⟨w1.heap.size, 2, none⟩ = some (.int .i64 C) := bR.cell 2
    have c3 : (w1.alloc (.cells #[.int .i64 j, .int .i64 B, .int .i64 C, .int .i64 J] 23)).cell? ⟨w1.heap.size, 3, none⟩ = some (.int .i64 J) := bR.cell 3
    go_wp2_with fail
    generalize w1.alloc (.cells #[.int .i64 j, .int .i64 B, .int .i64 C, .int .i64 J] 23) = w2 at *
    generalize w1.heap.size = kR at *
    go_at_call 25
    refine (left_any j B C J (1 + j) _).mono ?_
    rintro e0 w3 ⟨rfl, gx⟩
    rw [HE1.out, HV1.out]
    replace gA := gA.trans gx
    replace bR := bR.g gx
    clear c0 c1 c2 c3 gx
    have c0 : w3.cell? ⟨kR, 0, none⟩ = some (.int .i64 j) := bR.cell 0
    have c1 : w3.cell? ⟨kR, 1, none⟩ = some (.int .i64 B) := bR.cell 1
    have c2 : w3.cell? ⟨kR, 2, none⟩ = some (.int .i64 C) := bR.cell 2
    have c3 : w3.cell? ⟨kR, 3, none⟩ = some (.int .i64 J) := bR.cell 3
    go_wp2_with fail
    go_at_call 17
    refine (next_any j B C J 1 _ 0 (1 + j) 9 ⟨by decide, by decide⟩ (by omega) (by omega) _ (HT.out.g gA)).mono ?_
    rintro e0 w4 ⟨rfl, gx⟩
    rw [HVV.out, HNB.out, HNE.out]
    replace gA := gA.trans gx
    replace bR := bR.g gx
    clear c0 c1 c2 c3 gx
    have c0 : w4.cell? ⟨kR, 0, none⟩ = some (.int .i64 j) := bR.cell 0
    have c1 : w4.cell? ⟨kR, 1, none⟩ = some (.int .i64 B) := bR.cell 1
    have c2 : w4.cell? ⟨kR, 2, none⟩ = some (.int .i64 C) := bR.cell 2
    have c3 : w4.cell? ⟨kR, 3, none⟩ = some (.int .i64 J) := bR.cell 3
    go_wp2_with fail
    go_at_call 25
    refine (left_any j B C J (1 + j + 1) _).mono ?_
    rintro e0 w5 ⟨rfl, gx⟩
    rw [HE2.out, HV2.out]
    replace gA := gA.trans gx
    replace bR := bR.g gx
    clear c0 c1 c2 c3 gx
    have c0 : w5.cell? ⟨kR, 0, none⟩ = some (.int .i64 j) := bR.cell 0
    have c1 : w5.cell? ⟨kR, 1, none⟩ = some (.int .i64 B) := bR.cell 1
    have c2 : w5.cell? ⟨kR, 2, none⟩ = some (.int .i64 C) := bR.cell 2
    have c3 : w5.cell? ⟨kR, 3, none⟩ = some (.int .i64 J) := bR.cell 3
    go_wp2_with fail
    go_at_call 12
    refine (works_any _ (HT.out.g gA)).mono ?_
    rintro e0 w99 ⟨rfl, g99⟩
    replace gA := gA.trans g99
    clear g99
    go_wp2_with fail
    go_ret
    exact ⟨rfl, gA⟩

set_option maxRecDepth 4000 in
set_option maxHeartbeats 2000000 in
theorem contract (H : Type) (enc : TypeId × Value → H) (W : World) (base : Nat) (args : Array Value) (ds gs : List (DataW H)) (before : List MemPlace)
    (hval : ∀ (j : Nat) t v, Tryd.f9.params[j]? = some t → args[j]? = some v → Value.okWide Tryd.prog W .any base t v)
    (hW : DataW.Whole enc Tryd.prog Tryd.f9.params.toList Rows.retryLeftSpec.vars false W args.toList ds gs before) (hL : laidMetH Tryd.prog Rows.retryLeftRow.laid W) :
    Calls Tryd.prog 9 args W fun e W' => ∃ v, e = .returned v ∧ Rows.retryLeftSpec.post enc Tryd.prog Tryd.f9 false true false false W args v W' := by
  have hW' := hW
  obtain ⟨p, q, hA0, hV, rfl, hfz, hnd⟩ := hW
  have hA : DataW.TrodAll enc Tryd.prog W 0 (fun _ => true) true Tryd.f9.params.toList args.toList ds p := hA0
  rw [Tryd.params9] at hA hval
  obtain ⟨v0, vs0, d0, ds0, p0, q0, hargs, rfl, rfl, h0, r0⟩ := trodAll_cons hA
  obtain ⟨v1, vs1, d1, ds1, p1, q1, rfl, rfl, rfl, h1, r1⟩ := trodAll_cons r0
  obtain ⟨rfl, rfl, rfl⟩ := trodAll_nil r1
  obtain rfl : args = #[v0, v1] := by first | exact Array.ext' hargs | (cases args; simp_all)
  obtain ⟨a0, b0, c0, e0, rfl, ra0, rb0, rc0, re0⟩ := open_small (hval 0 48 v0 rfl rfl) h0
  obtain ⟨a1, rfl, rfl, rfl, w1⟩ := open_int Tryd.underlying5 (hval 1 5 v1 rfl rfl) h1
  simp [Lit.wf, IntKind.min, IntKind.max, IntKind.bits, IntKind.signed] at w1
  refine (walk (w := W) a0 b0 c0 e0 ra0 rb0 rc0 re0 a1 (by omega) (by omega) (tab_of hL)).mono fun e W' ⟨he, hg⟩ => ?_
  subst he
  exact ⟨_, rfl, law_post laidOut_ (by
    intro t ht
    rw [Tryd.params9] at ht
    simp at ht
    rcases ht with rfl | rfl <;> exact ⟨by kernel_rfl, by decide +kernel⟩) hW' rfl rfl (by kernel_rfl) Tryd.underlying4 hg⟩
theorem laid_met (os : Os) : laidMet Tryd.prog Rows.retryLeftRow.laid ((laidWorld os).forCall (fun _ _ => 0) ⟨#[], #[.agg #[.int .u8 0, .int .u16 0, .int .u16 0, .int .u16 0], .int .u8 0], []⟩).memory :=
  laidMet_of_run' 8 (by kernel_rfl) (by kernel_rfl)
theorem reads (os : Os) {H : Type} (enc : TypeId × Value → H) : ∃ places, DataW.whole enc Tryd.prog ((laidWorld os).forCall (fun _ _ => 0) ⟨#[], #[.agg #[.int .u8 0, .int .u16 0, .int .u16 0, .int .u16 0], .int .u8 0], []⟩).memory Tryd.f9.params.toList Rows.retryLeftSpec.vars false (#[.agg #[.int .u8 0, .int .u16 0, .int .u16 0, .int .u16 0], .int .u8 0] : Array Value).toList 8 = some ([.agg [.lit (.int .u8 0), .lit (.int .u16 0), .lit (.int .u16 0), .lit (.int .u16 0)], .lit (.int .u8 0)], [], places) :=
  ⟨[], by kernel_rfl⟩
set_option maxRecDepth 100000 in
theorem lifted (os : Os) (started : os.Started) (H : Type) (enc : TypeId × Value → H) (F : Stop.Interp) :
    ReturnsInHanded {} Tryd.checked os 9 .any ((OpenSpec.ofChange Rows.retryLeftSpec).preRow enc Tryd.prog Tryd.f9 Rows.retryLeftRow.domain false Rows.retryLeftRow.laid) (((OpenSpec.ofChange Rows.retryLeftSpec).at F).post enc Tryd.prog Tryd.f9 false true false false) := by
  obtain ⟨places, hx⟩ := reads os enc
  refine returnsInHanded_of_row (C := Tryd.checked) (s := OpenSpec.ofChange Rows.retryLeftSpec) own_ started (by kernel_rfl) Tryd.func9
    (witness_row_at (enc := enc) (C := Tryd.checked) false (laidWorld os) #[.agg #[.int .u8 0, .int .u16 0, .int .u16 0, .int .u16 0], .int .u8 0] rfl (by kernel_rfl) (by kernel_rfl) (by kernel_rfl)
      (OpenSpec.preRow_of_cond 8 hx (by kernel_rfl) (fun k hk => by cases hk) (by kernel_rfl) (laid_met os))) ?_
  intro W base args ds gs before hval hW _ _ _ hL _ _
  exact contract H enc W base args ds gs before hval hW hL
theorem said : Rows.RetryLeftSaid :=
  OpenClaim.holds_of_cond 9 Tryd.f9 rfl rfl rfl rfl rfl rfl rfl ⟨rfl, rfl, rfl, rfl, rfl⟩ rfl rfl rfl rfl rfl (by kernel_rfl) Tryd.func9 (by kernel_rfl)
    (of_decide_eq_true (by kernel_rfl)) (by unfold Func.isWrapper; first | (rw [if_pos (by decide +kernel)]; kernel_rfl) | (rw [if_neg (by decide +kernel)]; exact ⟨rfl, rfl⟩))
    (fun os started H enc _ F => by rw [OpenClaim.pre_eq_preRow]; exact lifted os started H enc F)
theorem plain (f : FuncId) (fn : Func) (hf : Tryd.pinned.checked.prog.funcNamed "wakeman/wakemanlaw31.RetryLeft" = some f) (hfn : Tryd.pinned.checked.prog.funcs[f]? = some fn) :
    false = Tryd.pinned.checked.prog.looks [] ∧ ∀ (j : Nat) t, fn.params[j]? = some t → Tryd.pinned.checked.prog.wantsStandIn t = false := by
  obtain rfl : f = 9 := Option.some.inj ((show Tryd.prog.funcNamed "wakeman/wakemanlaw31.RetryLeft" = some 9 by kernel_rfl).symm.trans hf) |>.symm
  obtain rfl : fn = Tryd.f9 := (Option.some.inj (Tryd.func9.symm.trans hfn)).symm
  refine ⟨by kernel_rfl, fun j t ht => ?_⟩
  rw [Tryd.params9] at ht
  have hm := Array.mem_of_getElem? ht
  simp at hm
  rcases hm with rfl | rfl
  · exact (show Tryd.prog.wantsStandIn 48 = false by kernel_rfl)
  · exact (show Tryd.prog.wantsStandIn 5 = false by kernel_rfl)
theorem card : Rows.RetryLeftCardSaid :=
  Claim7.holds_tied_plain_at .later [] _ _ _ _ said (fun _ h => by cases h) (by kernel_rfl) (fun _ h => by cases h) retryLeft_row_tie rfl ⟨rfl, rfl⟩ (by kernel_rfl) rfl plain (by kernel_rfl)
#print axioms card
end Go.Proofs.YtanipfenioaigaaDoor.lawRetryLeft
