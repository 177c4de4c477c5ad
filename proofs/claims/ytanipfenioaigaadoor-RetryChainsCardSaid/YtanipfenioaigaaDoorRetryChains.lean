/-
  RetryChains: when the attempts of a chain are ready is as the document says, or the error is.
  Conditions: none beyond the row's own (the table of package mix as the program's text lays it).
-/
import Derived.Test.YtanipfenioaigaaDoorTieD
import Derived.Test.YtanipfenioaigaaDoorRtX
set_option linter.unusedVariables false
set_option linter.unusedSimpArgs false
namespace Go.Proofs.YtanipfenioaigaaDoor.lawRetryChains
open Go.ChangeShapes Go.WideShapes Go.ChangeAt Go.RowKit
set_option maxHeartbeats 4000000 in
theorem walk (w : World) (M B C J a : Int) (s : ByteArray) (d n t : Int) (ra : 0 ≤ a ∧ a ≤ 18446744073709551615) (rs : s.size ≤ 9223372036854775807) (rd : -9223372036854775808 ≤ d ∧ d ≤ 9223372036854775807) (rn : -9223372036854775808 ≤ n ∧ n ≤ 9223372036854775807) (rt : -9223372036854775808 ≤ t ∧ t ≤ 9223372036854775807) (v : Value) (l : List Int) (R : Rd w v (vI .i64 l)) (hwf : ∀ x ∈ l, (Lit.int .i64 x).wf = true) (hT : Tab w) :
    Calls Tryd.prog 3 #[.agg #[.int .i64 M, .int .i64 B, .int .i64 C, .int .i64 J, .int .u64 a, .string s, .int .i64 d, .int .i64 n, .int .i64 t], v] w fun e w' => e = .returned (.bool true) ∧ G w w' := by
  have HT := Lib.hid hT
  have ha : u64 a := ⟨ra.1, by omega⟩
  obtain ⟨n0, n1⟩ := rn
  obtain ⟨A, c, rfl, hc, hcm, hd⟩ := id R
  rw [vI_len] at hc hd R ⊢
  clear hd hwf
  clear hT
  by_cases hbig : 100 < s.size
  · go_enter Tryd.func3, Tryd.ntmps3
    go_wp2_with fail
    go_at_call 12
    refine (works_any _ (HT.out.g (by repeat (first | exact G.refl _ | refine G.alloc ?_ _ | refine G.drewN ?_ _ | refine G.drew ?_ | refine G.trans ?_ (by assumption))))).mono ?_
    rintro e w8 ⟨rfl, g8⟩
    go_wp2_with fail
    go_ret
    exact ⟨rfl, (by repeat (first | exact G.refl _ | refine G.alloc ?_ _ | refine G.drewN ?_ _ | refine G.drew ?_ | refine G.trans ?_ (by assumption)))⟩
  have hs2 : s.size < 9223372036854775807 := by omega
  have hs100 : s.size ≤ 100 := by omega
  clear hbig
  by_cases hl : 30 < l.length
  · go_enter Tryd.func3, Tryd.ntmps3
    go_wp2_with fail
    go_at_call 12
    refine (works_any _ (HT.out.g (by repeat (first | exact G.refl _ | refine G.alloc ?_ _ | refine G.drewN ?_ _ | refine G.drew ?_ | refine G.trans ?_ (by assumption))))).mono ?_
    rintro e w8 ⟨rfl, g8⟩
    go_wp2_with fail
    go_ret
    exact ⟨rfl, (by repeat (first | exact G.refl _ | refine G.alloc ?_ _ | refine G.drewN ?_ _ | refine G.drew ?_ | refine G.trans ?_ (by assumption)))⟩
  have hl30 : l.length ≤ 30 := by omega
  clear hl
  obtain ⟨E, hE⟩ : ∃ yy, chE M B C J s d t l = yy := ⟨_, rfl⟩
  have HE := Lib.hid hE
  clear hE
  go_enter Tryd.func3, Tryd.ntmps3
  go_wp2_with fail
  go_at_call 13
  refine (clone_any l _ _ (R.g (by repeat (first | exact G.refl _ | refine G.alloc ?_ _ | refine G.drewN ?_ _ | refine G.drew ?_ | refine G.trans ?_ (by assumption)))) (by omega)).mono ?_
  rintro e w0 ⟨vc, rfl, rC, g0⟩
  have bX : Blk w0 w.heap.size 26 #[.int .i64 M, .int .i64 B, .int .i64 C, .int .i64 J, .int .u64 a, .string s, .int .i64 d, .int .i64 n, .int .i64 t] := (Blk.new w _ _).g g0
  have gA : G w w0 := ((G.refl w).alloc _).trans g0
  replace R := R.g gA
  clear g0
  have c0 : w0.cell? ⟨w.heap.size, 0, none⟩ = some (.int .i64 M) := bX.cell 0
  have c1 : w0.cell? ⟨w.heap.size, 1, none⟩ = some (.int .i64 B) := bX.cell 1
  have c2 : w0.cell? ⟨w.heap.size, 2, none⟩ = some (.int .i64 C) := bX.cell 2
  have c3 : w0.cell? ⟨w.heap.size, 3, none⟩ = some (.int .i64 J) := bX.cell 3
  have c4 : w0.cell? ⟨w.heap.size, 4, none⟩ = some (.int .u64 a) := bX.cell 4
  have c5 : w0.cell? ⟨w.heap.size, 5, none⟩ = some (.string s) := bX.cell 5
  have c6 : w0.cell? ⟨w.heap.size, 6, none⟩ = some (.int .i64 d) := bX.cell 6
  have c7 : w0.cell? ⟨w.heap.size, 7, none⟩ = some (.int .i64 n) := bX.cell 7
  have c8 : w0.cell? ⟨w.heap.size, 8, none⟩ = some (.int .i64 t) := bX.cell 8
  go_wp2_with fail
  go_at_call 14
  refine (chain_any M B C J a s d t _ l ha hl30 _ R (HT.out.g gA)).mono ?_
  rintro e w1 ⟨vA, rfl, rA, g1⟩
  rw [HE.out]
  replace bX := bX.g g1
  replace gA := gA.trans g1
  replace R := R.g g1
  replace rC := rC.g g1
  clear c0 c1 c2 c3 c4 c5 c6 c7 c8
  clear g1
  have c0 : w1.cell? ⟨w.heap.size, 0, none⟩ = some (.int .i64 M) := bX.cell 0
  have c1 : w1.cell? ⟨w.heap.size, 1, none⟩ = some (.int .i64 B) := bX.cell 1
  have c2 : w1.cell? ⟨w.heap.size, 2, none⟩ = some (.int .i64 C) := bX.cell 2
  have c3 : w1.cell? ⟨w.heap.size, 3, none⟩ = some (.int .i64 J) := bX.cell 3
  have c4 : w1.cell? ⟨w.heap.size, 4, none⟩ = some (.int .u64 a) := bX.cell 4
  have c5 : w1.cell? ⟨w.heap.size, 5, none⟩ = some (.string s) := bX.cell 5
  have c6 : w1.cell? ⟨w.heap.size, 6, none⟩ = some (.int .i64 d) := bX.cell 6
  have c7 : w1.cell? ⟨w.heap.size, 7, none⟩ = some (.int .i64 n) := bX.cell 7
  have c8 : w1.cell? ⟨w.heap.size, 8, none⟩ = some (.int .i64 t) := bX.cell 8
  go_wp2_with fail
  go_at_call 15
  refine (rchain_any M B C J a s d t vc l ha hs2 hl30 _ rC).mono ?_
  rintro e w2 ⟨vB, rfl, rB, g2⟩
  rw [HE.out]
  replace bX := bX.g g2
  replace gA := gA.trans g2
  replace R := R.g g2
  replace rC := rC.g g2
  replace rA := rA.g g2
  clear c0 c1 c2 c3 c4 c5 c6 c7 c8
  clear g2
  have c0 : w2.cell? ⟨w.heap.size, 0, none⟩ = some (.int .i64 M) := bX.cell 0
  have c1 : w2.cell? ⟨w.heap.size, 1, none⟩ = some (.int .i64 B) := bX.cell 1
  have c2 : w2.cell? ⟨w.heap.size, 2, none⟩ = some (.int .i64 C) := bX.cell 2
  have c3 : w2.cell? ⟨w.heap.size, 3, none⟩ = some (.int .i64 J) := bX.cell 3
  have c4 : w2.cell? ⟨w.heap.size, 4, none⟩ = some (.int .u64 a) := bX.cell 4
  have c5 : w2.cell? ⟨w.heap.size, 5, none⟩ = some (.string s) := bX.cell 5
  have c6 : w2.cell? ⟨w.heap.size, 6, none⟩ = some (.int .i64 d) := bX.cell 6
  have c7 : w2.cell? ⟨w.heap.size, 7, none⟩ = some (.int .i64 n) := bX.cell 7
  have c8 : w2.cell? ⟨w.heap.size, 8, none⟩ = some (.int .i64 t) := bX.cell 8
  go_wp2_with fail
  go_at_call 16
  refine (equal_i64 _ _ _ _ rA rB).mono ?_
  rintro e w50 ⟨rfl, g5⟩
  replace gA := gA.trans g5
  replace R := R.g g5
  replace rC := rC.g g5
  clear g5
  go_wp2_with fail
  go_at_call 16
  refine (equal_i64 _ _ _ _ R rC).mono ?_
  rintro e w51 ⟨rfl, g5⟩
  replace gA := gA.trans g5
  replace R := R.g g5
  replace rC := rC.g g5
  clear g5
  go_wp2_with fail
  go_at_call 12
  refine (works_any _ (HT.out.g gA)).mono ?_
  rintro e w99 ⟨rfl, g99⟩
  replace gA := gA.trans g99
  clear g99
  go_wp2_with fail
  go_ret
  exact ⟨rfl, gA⟩

set_option maxRecDepth 4000 in
set_option maxHeartbeats 2000000 in
theorem contract (H : Type) (enc : TypeId × Value → H) (W : World) (base : Nat) (args : Array Value) (ds gs : List (DataW H)) (before : List MemPlace)
    (hval : ∀ (j : Nat) t v, Tryd.f3.params[j]? = some t → args[j]? = some v → Value.okWide Tryd.prog W .any base t v)
    (hW : DataW.Whole enc Tryd.prog Tryd.f3.params.toList Rows.retryChainsSpec.vars false W args.toList ds gs before) (hL : laidMetH Tryd.prog Rows.retryChainsRow.laid W) :
    Calls Tryd.prog 3 args W fun e W' => ∃ v, e = .returned v ∧ Rows.retryChainsSpec.post enc Tryd.prog Tryd.f3 false true false false W args v W' := by
  have hW' := hW
  obtain ⟨p, q, hA0, hV, rfl, hfz, hnd⟩ := hW
  have hA : DataW.TrodAll enc Tryd.prog W 0 (fun _ => true) true Tryd.f3.params.toList args.toList ds p := hA0
  rw [Tryd.params3] at hA hval
  obtain ⟨v0, vs0, d0, ds0, p0, q0, hargs, rfl, rfl, h0, r0⟩ := trodAll_cons hA
  obtain ⟨v1, vs1, d1, ds1, p1, q1, rfl, rfl, rfl, h1, r1⟩ := trodAll_cons r0
  obtain ⟨rfl, rfl, rfl⟩ := trodAll_nil r1
  obtain rfl : args = #[v0, v1] := by first | exact Array.ext' hargs | (cases args; simp_all)
  obtain ⟨M0, B0, C0, J0, a0, s0, u0, n0, t0, rfl, ra0, rs0, ru0, rn0, rt0⟩ := open_case (hval 0 26 v0 rfl rfl) h0
  obtain ⟨l1, R1, B1⟩ := open_list (k := .i64) Tryd.underlying27 Tryd.underlying2 (by kernel_rfl) (hval 1 27 v1 rfl rfl) h1
  refine (walk (w := W) M0 B0 C0 J0 a0 s0 u0 n0 t0 ra0 rs0 ru0 rn0 rt0 v1 l1 R1 B1 (tab_of hL)).mono fun e W' ⟨he, hg⟩ => ?_
  subst he
  exact ⟨_, rfl, law_post laidOut_ (by
    intro t ht
    rw [Tryd.params3] at ht
    simp at ht
    rcases ht with rfl | rfl <;> exact ⟨by kernel_rfl, by decide +kernel⟩) hW' rfl rfl (by kernel_rfl) Tryd.underlying4 hg⟩
theorem laid_met (os : Os) : laidMet Tryd.prog Rows.retryChainsRow.laid ((laidWorld os).forCall (fun _ _ => 0) ⟨#[], #[.agg #[.int .i64 0, .int .i64 0, .int .i64 0, .int .i64 0, .int .u64 0, .string ByteArray.empty, .int .i64 0, .int .i64 0, .int .i64 0], .slice none 0 0], []⟩).memory :=
  laidMet_of_run' 8 (by kernel_rfl) (by kernel_rfl)
theorem reads (os : Os) {H : Type} (enc : TypeId × Value → H) : ∃ places, DataW.whole enc Tryd.prog ((laidWorld os).forCall (fun _ _ => 0) ⟨#[], #[.agg #[.int .i64 0, .int .i64 0, .int .i64 0, .int .i64 0, .int .u64 0, .string ByteArray.empty, .int .i64 0, .int .i64 0, .int .i64 0], .slice none 0 0], []⟩).memory Tryd.f3.params.toList Rows.retryChainsSpec.vars false (#[.agg #[.int .i64 0, .int .i64 0, .int .i64 0, .int .i64 0, .int .u64 0, .string ByteArray.empty, .int .i64 0, .int .i64 0, .int .i64 0], .slice none 0 0] : Array Value).toList 8 = some ([.agg [.agg [.lit (.int .i64 0), .lit (.int .i64 0), .lit (.int .i64 0), .lit (.int .i64 0)], .lit (.int .u64 0), .lit (.string []), .lit (.int .i64 0), .lit (.int .i64 0), .lit (.int .i64 0)], .nil], [], places) :=
  ⟨[], by kernel_rfl⟩
set_option maxRecDepth 100000 in
theorem lifted (os : Os) (started : os.Started) (H : Type) (enc : TypeId × Value → H) (F : Stop.Interp) :
    ReturnsInHanded {} Tryd.checked os 3 .any ((OpenSpec.ofChange Rows.retryChainsSpec).preRow enc Tryd.prog Tryd.f3 Rows.retryChainsRow.domain false Rows.retryChainsRow.laid) (((OpenSpec.ofChange Rows.retryChainsSpec).at F).post enc Tryd.prog Tryd.f3 false true false false) := by
  obtain ⟨places, hx⟩ := reads os enc
  refine returnsInHanded_of_row (C := Tryd.checked) (s := OpenSpec.ofChange Rows.retryChainsSpec) own_ started (by kernel_rfl) Tryd.func3
    (witness_row_at (enc := enc) (C := Tryd.checked) false (laidWorld os) #[.agg #[.int .i64 0, .int .i64 0, .int .i64 0, .int .i64 0, .int .u64 0, .string ByteArray.empty, .int .i64 0, .int .i64 0, .int .i64 0], .slice none 0 0] rfl (by kernel_rfl) (by kernel_rfl) (by kernel_rfl)
      (OpenSpec.preRow_of_cond 8 hx (by kernel_rfl) (fun k hk => by cases hk) (by kernel_rfl) (laid_met os))) ?_
  intro W base args ds gs before hval hW _ _ _ hL _ _
  exact contract H enc W base args ds gs before hval hW hL
theorem said : Rows.RetryChainsSaid :=
  OpenClaim.holds_of_cond 3 Tryd.f3 rfl rfl rfl rfl rfl rfl rfl ⟨rfl, rfl, rfl, rfl, rfl⟩ rfl rfl rfl rfl rfl (by kernel_rfl) Tryd.func3 (by kernel_rfl)
    (of_decide_eq_true (by kernel_rfl)) (by unfold Func.isWrapper; first | (rw [if_pos (by decide +kernel)]; kernel_rfl) | (rw [if_neg (by decide +kernel)]; exact ⟨rfl, rfl⟩))
    (fun os started H enc _ F => by rw [OpenClaim.pre_eq_preRow]; exact lifted os started H enc F)
theorem plain (f : FuncId) (fn : Func) (hf : Tryd.pinned.checked.prog.funcNamed "wakeman/wakemanlaw31.RetryChains" = some f) (hfn : Tryd.pinned.checked.prog.funcs[f]? = some fn) :
    false = Tryd.pinned.checked.prog.looks [] ∧ ∀ (j : Nat) t, fn.params[j]? = some t → Tryd.pinned.checked.prog.wantsStandIn t = false := by
  obtain rfl : f = 3 := Option.some.inj ((show Tryd.prog.funcNamed "wakeman/wakemanlaw31.RetryChains" = some 3 by kernel_rfl).symm.trans hf) |>.symm
  obtain rfl : fn = Tryd.f3 := (Option.some.inj (Tryd.func3.symm.trans hfn)).symm
  refine ⟨by kernel_rfl, fun j t ht => ?_⟩
  rw [Tryd.params3] at ht
  have hm := Array.mem_of_getElem? ht
  simp at hm
  rcases hm with rfl | rfl
  · exact (show Tryd.prog.wantsStandIn 26 = false by kernel_rfl)
  · exact (show Tryd.prog.wantsStandIn 27 = false by kernel_rfl)
theorem card : Rows.RetryChainsCardSaid :=
  Claim7.holds_tied_plain_at .later [] _ _ _ _ said (fun _ h => by cases h) (by kernel_rfl) (fun _ h => by cases h) retryChains_row_tie rfl ⟨rfl, rfl⟩ (by kernel_rfl) rfl plain (by kernel_rfl)
#print axioms card
end Go.Proofs.YtanipfenioaigaaDoor.lawRetryChains
