/-
  JitterLists: the jitters of an occurrence, the smallest one, and their sum are the document's, or the error is.
  Conditions: none beyond the row's own (the table of package mix as the program's text lays it).
-/
import Derived.Test.YtahjiiigpndaeaaDoorTieC
import Derived.Test.YtahjiiigpndaeaaDoorJtX
set_option linter.unusedVariables false
set_option linter.unusedSimpArgs false
namespace Go.Proofs.YtahjiiigpndaeaaDoor.lawJitterLists
open Go.ChangeShapes Go.WideShapes Go.ChangeAt Go.RowKit
set_option maxHeartbeats 4000000 in
theorem walk (w : World) (a : Int) (s : ByteArray) (d n L : Int) (ra : 0 ≤ a ∧ a ≤ 18446744073709551615) (rs : s.size ≤ 9223372036854775807) (rd : -9223372036854775808 ≤ d ∧ d ≤ 9223372036854775807) (rn : -9223372036854775808 ≤ n ∧ n ≤ 9223372036854775807) (rL : -9223372036854775808 ≤ L ∧ L ≤ 9223372036854775807) (ht : Tab w) :
    Calls Tryd.prog 11 #[.agg #[.int .u64 a, .string s, .int .i64 d, .int .i64 n, .int .i64 L]] w fun e w' => e = .returned (.bool true) ∧ G w w' := by
  have HT := Lib.hid ht
  have ha : u64 a := ⟨ra.1, by omega⟩
  obtain ⟨n0, n1⟩ := rn
  clear ht
  by_cases hbig : 300 < s.size
  · go_enter Tryd.func11, Tryd.ntmps11
    go_wp2_with fail
    go_at_call 19
    refine (works_any _ (HT.out.g (by repeat (first | exact G.refl _ | refine G.alloc ?_ _ | refine G.drewN ?_ _ | refine G.drew ?_ | refine G.trans ?_ (by assumption))))).mono ?_
    rintro e w8 ⟨rfl, g8⟩
    go_wp2_with fail
    go_ret
    exact ⟨rfl, (by repeat (first | exact G.refl _ | refine G.alloc ?_ _ | refine G.drewN ?_ _ | refine G.drew ?_ | refine G.trans ?_ (by assumption)))⟩
  have hs2 : s.size < 9223372036854775807 := by omega
  have hs300 : s.size ≤ 300 := by omega
  clear hbig
  obtain ⟨E, hE⟩ : ∃ x, jnE s d n L = x := ⟨_, rfl⟩
  have HE := Lib.hid hE
  clear hE
  obtain ⟨K, hK⟩ : ∃ x, (ltF (lstF a s d L) (List.range (jnN s d n L))).1 = x := ⟨_, rfl⟩
  have HK := Lib.hid hK
  clear hK
  obtain ⟨M, hM⟩ : ∃ x, (ltF (lstF a s d L) (List.range (jnN s d n L))).2 = x := ⟨_, rfl⟩
  have HM := Lib.hid hM
  clear hM
  obtain ⟨F, hF⟩ : ∃ x, ltE s d n L = x := ⟨_, rfl⟩
  have HF := Lib.hid hF
  clear hF
  obtain ⟨S, hS⟩ : ∃ x, sumJ a s d L (List.range (jnN s d n L)) = x := ⟨_, rfl⟩
  have HS := Lib.hid hS
  clear hS
  go_enter Tryd.func11, Tryd.ntmps11
  go_wp2_with fail
  go_at_call 15
  refine (jlist_any a s d n L ha n0 n1 _ (HT.out.g (by repeat (first | exact G.refl _ | refine G.alloc ?_ _ | refine G.drewN ?_ _ | refine G.drew ?_ | refine G.trans ?_ (by assumption))))).mono ?_
  rintro e w1 ⟨vA, rfl, rA, g1⟩
  rw [HE.out]
  have bX : Blk w1 w.heap.size 36 #[.int .u64 a, .string s, .int .i64 d, .int .i64 n, .int .i64 L] := (Blk.new w _ _).g g1
  have gA : G w w1 := ((G.refl w).alloc _).trans g1
  clear g1
  have c0 : w1.cell? ⟨w.heap.size, 0, none⟩ = some (.int .u64 a) := bX.cell 0
  have c1 : w1.cell? ⟨w.heap.size, 1, none⟩ = some (.string s) := bX.cell 1
  have c2 : w1.cell? ⟨w.heap.size, 2, none⟩ = some (.int .i64 d) := bX.cell 2
  have c3 : w1.cell? ⟨w.heap.size, 3, none⟩ = some (.int .i64 n) := bX.cell 3
  have c4 : w1.cell? ⟨w.heap.size, 4, none⟩ = some (.int .i64 L) := bX.cell 4
  go_wp2_with fail
  go_at_call 28
  refine (rjlist_any a s d n L ha hs2 n0 n1 _).mono ?_
  rintro e w2 ⟨vB, rfl, rB, g2⟩
  rw [HE.out]
  replace bX := bX.g g2
  replace gA := gA.trans g2
  replace rA := rA.g g2
  clear c0 c1 c2 c3 c4
  clear g2
  have c0 : w2.cell? ⟨w.heap.size, 0, none⟩ = some (.int .u64 a) := bX.cell 0
  have c1 : w2.cell? ⟨w.heap.size, 1, none⟩ = some (.string s) := bX.cell 1
  have c2 : w2.cell? ⟨w.heap.size, 2, none⟩ = some (.int .i64 d) := bX.cell 2
  have c3 : w2.cell? ⟨w.heap.size, 3, none⟩ = some (.int .i64 n) := bX.cell 3
  have c4 : w2.cell? ⟨w.heap.size, 4, none⟩ = some (.int .i64 L) := bX.cell 4
  go_wp2_with fail
  go_at_call 29
  refine (jleast_any a s d n L ha n0 n1 _ (HT.out.g gA)).mono ?_
  rintro e w3 ⟨rfl, g3⟩
  rw [HK.out, HM.out, HF.out]
  replace bX := bX.g g3
  replace gA := gA.trans g3
  replace rA := rA.g g3
  replace rB := rB.g g3
  clear c0 c1 c2 c3 c4
  clear g3
  have c0 : w3.cell? ⟨w.heap.size, 0, none⟩ = some (.int .u64 a) := bX.cell 0
  have c1 : w3.cell? ⟨w.heap.size, 1, none⟩ = some (.string s) := bX.cell 1
  have c2 : w3.cell? ⟨w.heap.size, 2, none⟩ = some (.int .i64 d) := bX.cell 2
  have c3 : w3.cell? ⟨w.heap.size, 3, none⟩ = some (.int .i64 n) := bX.cell 3
  have c4 : w3.cell? ⟨w.heap.size, 4, none⟩ = some (.int .i64 L) := bX.cell 4
  go_wp2_with fail
  go_at_call 30
  refine (rjleast_any a s d n L ha hs2 n0 n1 _).mono ?_
  rintro e w4 ⟨rfl, g4⟩
  rw [HK.out, HM.out, HF.out]
  replace bX := bX.g g4
  replace gA := gA.trans g4
  replace rA := rA.g g4
  replace rB := rB.g g4
  clear c0 c1 c2 c3 c4
  clear g4
  have c0 : w4.cell? ⟨w.heap.size, 0, none⟩ = some (.int .u64 a) := bX.cell 0
  have c1 : w4.cell? ⟨w.heap.size, 1, none⟩ = some (.string s) := bX.cell 1
  have c2 : w4.cell? ⟨w.heap.size, 2, none⟩ = some (.int .i64 d) := bX.cell 2
  have c3 : w4.cell? ⟨w.heap.size, 3, none⟩ = some (.int .i64 n) := bX.cell 3
  have c4 : w4.cell? ⟨w.heap.size, 4, none⟩ = some (.int .i64 L) := bX.cell 4
  go_wp2_with fail
  go_at_call 16
  refine (jtotal_any a s d n L ha n0 n1 _ (HT.out.g gA)).mono ?_
  rintro e w5 ⟨rfl, g5⟩
  rw [HS.out, HE.out]
  replace bX := bX.g g5
  replace gA := gA.trans g5
  replace rA := rA.g g5
  replace rB := rB.g g5
  clear c0 c1 c2 c3 c4
  clear g5
  have c0 : w5.cell? ⟨w.heap.size, 0, none⟩ = some (.int .u64 a) := bX.cell 0
  have c1 : w5.cell? ⟨w.heap.size, 1, none⟩ = some (.string s) := bX.cell 1
  have c2 : w5.cell? ⟨w.heap.size, 2, none⟩ = some (.int .i64 d) := bX.cell 2
  have c3 : w5.cell? ⟨w.heap.size, 3, none⟩ = some (.int .i64 n) := bX.cell 3
  have c4 : w5.cell? ⟨w.heap.size, 4, none⟩ = some (.int .i64 L) := bX.cell 4
  go_wp2_with fail
  go_at_call 31
  refine (rjtotal_any a s d n L ha hs2 n0 n1 _).mono ?_
  rintro e w6 ⟨rfl, g6⟩
  rw [HS.out, HE.out]
  replace bX := bX.g g6
  replace gA := gA.trans g6
  replace rA := rA.g g6
  replace rB := rB.g g6
  clear c0 c1 c2 c3 c4
  clear g6
  have c0 : w6.cell? ⟨w.heap.size, 0, none⟩ = some (.int .u64 a) := bX.cell 0
  have c1 : w6.cell? ⟨w.heap.size, 1, none⟩ = some (.string s) := bX.cell 1
  have c2 : w6.cell? ⟨w.heap.size, 2, none⟩ = some (.int .i64 d) := bX.cell 2
  have c3 : w6.cell? ⟨w.heap.size, 3, none⟩ = some (.int .i64 n) := bX.cell 3
  have c4 : w6.cell? ⟨w.heap.size, 4, none⟩ = some (.int .i64 L) := bX.cell 4
  go_wp2_with fail
  go_at_call 22
  refine (equal_i64 _ _ _ _ rA rB).mono ?_
  rintro e w50 ⟨rfl, g50⟩
  replace gA := gA.trans g50
  clear g50
  go_wp2_with fail
  go_at_call 19
  refine (works_any _ (HT.out.g gA)).mono ?_
  rintro e w99 ⟨rfl, g99⟩
  replace gA := gA.trans g99
  clear g99
  go_wp2_with fail
  go_ret
  exact ⟨rfl, gA⟩

set_option maxHeartbeats 2000000 in
theorem contract (H : Type) (enc : TypeId × Value → H) (W : World) (base : Nat) (args : Array Value) (ds gs : List (DataW H)) (before : List MemPlace)
    (hval : ∀ (j : Nat) t v, Tryd.f11.params[j]? = some t → args[j]? = some v → Value.okWide Tryd.prog W .any base t v)
    (hW : DataW.Whole enc Tryd.prog Tryd.f11.params.toList Rows.jitterListsSpec.vars false W args.toList ds gs before) (hL : laidMetH Tryd.prog Rows.jitterListsRow.laid W) :
    Calls Tryd.prog 11 args W fun e W' => ∃ v, e = .returned v ∧ Rows.jitterListsSpec.post enc Tryd.prog Tryd.f11 false true false false W args v W' := by
  have hW' := hW
  obtain ⟨p, q, hA0, hV, rfl, hfz, hnd⟩ := hW
  have hA : DataW.TrodAll enc Tryd.prog W 0 (fun _ => true) true Tryd.f11.params.toList args.toList ds p := hA0
  rw [Tryd.params11] at hA hval
  obtain ⟨v0, vs0, d0, ds0, p0, q0, hargs, rfl, rfl, h0, r0⟩ := trodAll_cons hA
  obtain ⟨rfl, rfl, rfl⟩ := trodAll_nil r0
  obtain rfl : args = #[v0] := by cases args; simp_all
  obtain ⟨a0, s0, u0, n0, L0, rfl, ra0, rs0, ru0, rn0, rL0⟩ := open_case (hval 0 36 v0 rfl rfl) h0
  refine (walk (w := W) a0 s0 u0 n0 L0 ra0 rs0 ru0 rn0 rL0 (tab_of hL)).mono fun e W' ⟨he, hg⟩ => ?_
  subst he
  exact ⟨_, rfl, law_post laidOut_ (by
    intro t ht
    rw [Tryd.params11] at ht
    simp at ht
    rcases ht with rfl <;> exact ⟨by kernel_rfl, by decide +kernel⟩) hW' rfl rfl (by kernel_rfl) Tryd.underlying4 hg⟩
theorem laid_met (os : Os) : laidMet Tryd.prog Rows.jitterListsRow.laid ((laidWorld os).forCall (fun _ _ => 0) ⟨#[], #[.agg #[.int .u64 0, .string ByteArray.empty, .int .i64 0, .int .i64 0, .int .i64 0]], []⟩).memory :=
  laidMet_of_run' 8 (by kernel_rfl) (by kernel_rfl)
theorem reads (os : Os) {H : Type} (enc : TypeId × Value → H) : ∃ places, DataW.whole enc Tryd.prog ((laidWorld os).forCall (fun _ _ => 0) ⟨#[], #[.agg #[.int .u64 0, .string ByteArray.empty, .int .i64 0, .int .i64 0, .int .i64 0]], []⟩).memory Tryd.f11.params.toList Rows.jitterListsSpec.vars false (#[.agg #[.int .u64 0, .string ByteArray.empty, .int .i64 0, .int .i64 0, .int .i64 0]] : Array Value).toList 8 = some ([.agg [.lit (.int .u64 0), .lit (.string []), .lit (.int .i64 0), .lit (.int .i64 0), .lit (.int .i64 0)]], [], places) :=
  ⟨[], by kernel_rfl⟩
set_option maxRecDepth 100000 in
theorem lifted (os : Os) (started : os.Started) (H : Type) (enc : TypeId × Value → H) (F : Stop.Interp) :
    ReturnsInHanded {} Tryd.checked os 11 .any ((OpenSpec.ofChange Rows.jitterListsSpec).preRow enc Tryd.prog Tryd.f11 Rows.jitterListsRow.domain false Rows.jitterListsRow.laid) (((OpenSpec.ofChange Rows.jitterListsSpec).at F).post enc Tryd.prog Tryd.f11 false true false false) := by
  obtain ⟨places, hx⟩ := reads os enc
  refine returnsInHanded_of_row (C := Tryd.checked) (s := OpenSpec.ofChange Rows.jitterListsSpec) own_ started (by kernel_rfl) Tryd.func11
    (witness_row_at (enc := enc) (C := Tryd.checked) false (laidWorld os) #[.agg #[.int .u64 0, .string ByteArray.empty, .int .i64 0, .int .i64 0, .int .i64 0]] rfl (by kernel_rfl) (by kernel_rfl) (by kernel_rfl)
      (OpenSpec.preRow_of_cond 8 hx (by kernel_rfl) (fun k hk => by cases hk) (by kernel_rfl) (laid_met os))) ?_
  intro W base args ds gs before hval hW _ _ _ hL _ _
  exact contract H enc W base args ds gs before hval hW hL
theorem said : Rows.JitterListsSaid :=
  OpenClaim.holds_of_cond 11 Tryd.f11 rfl rfl rfl rfl rfl rfl rfl ⟨rfl, rfl, rfl, rfl, rfl⟩ rfl rfl rfl rfl rfl (by kernel_rfl) Tryd.func11 (by kernel_rfl)
    (of_decide_eq_true (by kernel_rfl)) (by unfold Func.isWrapper; first | (rw [if_pos (by decide +kernel)]; kernel_rfl) | (rw [if_neg (by decide +kernel)]; exact ⟨rfl, rfl⟩))
    (fun os started H enc _ F => by rw [OpenClaim.pre_eq_preRow]; exact lifted os started H enc F)
theorem plain (f : FuncId) (fn : Func) (hf : Tryd.pinned.checked.prog.funcNamed "wakeman/wakemanlaw29.JitterLists" = some f) (hfn : Tryd.pinned.checked.prog.funcs[f]? = some fn) :
    false = Tryd.pinned.checked.prog.looks [] ∧ ∀ (j : Nat) t, fn.params[j]? = some t → Tryd.pinned.checked.prog.wantsStandIn t = false := by
  obtain rfl : f = 11 := Option.some.inj ((show Tryd.prog.funcNamed "wakeman/wakemanlaw29.JitterLists" = some 11 by kernel_rfl).symm.trans hf) |>.symm
  obtain rfl : fn = Tryd.f11 := (Option.some.inj (Tryd.func11.symm.trans hfn)).symm
  refine ⟨by kernel_rfl, fun j t ht => ?_⟩
  rw [Tryd.params11] at ht
  have hm := Array.mem_of_getElem? ht
  simp at hm
  rcases hm with rfl
  · exact (show Tryd.prog.wantsStandIn 36 = false by kernel_rfl)
theorem card : Rows.JitterListsCardSaid :=
  Claim7.holds_tied_plain_at .later [] _ _ _ _ said (fun _ h => by cases h) (by kernel_rfl) (fun _ h => by cases h) jitterLists_row_tie rfl ⟨rfl, rfl⟩ (by kernel_rfl) rfl plain (by kernel_rfl)
#print axioms card
end Go.Proofs.YtahjiiigpndaeaaDoor.lawJitterLists
