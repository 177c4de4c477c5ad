/-
  RetryBounds: the latest and the earliest times, whether a time is allowed, and how many attempts are left, is as the document says, or the errors are.
  Conditions: none beyond the row's own (the table of package mix as the program's text lays it).
-/
import Derived.Test.YtanipfenioaigaaDoorTieD
import Derived.Test.YtanipfenioaigaaDoorRtX
set_option linter.unusedVariables false
set_option linter.unusedSimpArgs false
namespace Go.Proofs.YtanipfenioaigaaDoor.lawRetryBounds
open Go.ChangeShapes Go.WideShapes Go.ChangeAt Go.RowKit
set_option maxHeartbeats 4000000 in
theorem walk (w : World) (M B C J a : Int) (s : ByteArray) (d n t : Int) (ra : 0 ≤ a ∧ a ≤ 18446744073709551615) (rs : s.size ≤ 9223372036854775807) (rd : -9223372036854775808 ≤ d ∧ d ≤ 9223372036854775807) (rn : -9223372036854775808 ≤ n ∧ n ≤ 9223372036854775807) (rt : -9223372036854775808 ≤ t ∧ t ≤ 9223372036854775807) (run : Int) (run0 : -9223372036854775808 ≤ run) (run1 : run ≤ 9223372036854775807) (wait : Int) (wait0 : -9223372036854775808 ≤ wait) (wait1 : wait ≤ 9223372036854775807) (x : Int) (x0 : -9223372036854775808 ≤ x) (x1 : x ≤ 9223372036854775807) (hT : Tab w) :
    Calls Tryd.prog 5 #[.agg #[.int .i64 M, .int .i64 B, .int .i64 C, .int .i64 J, .int .u64 a, .string s, .int .i64 d, .int .i64 n, .int .i64 t], .int .i64 run, .int .i64 wait, .int .i64 x] w fun e w' => e = .returned (.bool true) ∧ G w w' := by
  have HT := Lib.hid hT
  have ha : u64 a := ⟨ra.1, by omega⟩
  obtain ⟨n0, n1⟩ := rn
  clear hT
  obtain ⟨LV, hLV⟩ : ∃ yy, ltV M B C J t run wait = yy := ⟨_, rfl⟩
  have HLV := Lib.hid hLV
  clear hLV
  obtain ⟨LE, hLE⟩ : ∃ yy, ltE M B C J t run wait = yy := ⟨_, rfl⟩
  have HLE := Lib.hid hLE
  clear hLE
  obtain ⟨EV, hEV⟩ : ∃ yy, erV M B C J n t = yy := ⟨_, rfl⟩
  have HEV := Lib.hid hEV
  clear hEV
  obtain ⟨EE, hEE⟩ : ∃ yy, erE M B C J n t = yy := ⟨_, rfl⟩
  have HEE := Lib.hid hEE
  clear hEE
  obtain ⟨AB, hAB⟩ : ∃ yy, alB M B C J n t x = yy := ⟨_, rfl⟩
  have HAB := Lib.hid hAB
  clear hAB
  obtain ⟨FV, hFV⟩ : ∃ yy, lfV M B C J n = yy := ⟨_, rfl⟩
  have HFV := Lib.hid hFV
  clear hFV
  obtain ⟨FE, hFE⟩ : ∃ yy, lfE M B C J n = yy := ⟨_, rfl⟩
  have HFE := Lib.hid hFE
  clear hFE
  go_enter Tryd.func5, Tryd.ntmps5
  go_wp2_with fail
  go_at_call 19
  refine (latest_any M B C J t run wait _).mono ?_
  rintro e w1 ⟨rfl, g1⟩
  rw [HLV.out, HLE.out]
  have bX : Blk w1 w.heap.size 26 #[.int .i64 M, .int .i64 B, .int .i64 C, .int .i64 J, .int .u64 a, .string s, .int .i64 d, .int .i64 n, .int .i64 t] := (Blk.new w _ _).g g1
  have gA : G w w1 := ((G.refl w).alloc _).trans g1
  clear g1
  have c0 : w1.cell? ⟨w.heap.size, 0, none⟩ = some (.int .i64 M) := bX.cell 0
  have c1 : w1.cell? ⟨w.heap.size, 1, none⟩ = some (.int .i64 B) := bX.cell 1
  have c2 : w1.cell? ⟨w.heap.size, 2, none⟩ = some (.int .i64 C) := bX.cell 2
  have c3 : w1.cell? ⟨w.heap.size, 3, none⟩ = some (.int .i64 J) := bX.cell 3
  have c4 : w1.cell? ⟨w.heap.size, 4, none⟩ = some (.int .u64 a) := bX.cell 4
  have c5 : w1.cell? ⟨w.heap.size, 5, none⟩ = some (.string s) := bX.cell 5
  have c6 : w1.cell? ⟨w.heap.size, 6, none⟩ = some (.int .i64 d) := bX.cell 6
  have c7 : w1.cell? ⟨w.heap.size, 7, none⟩ = some (.int .i64 n) := bX.cell 7
  have c8 : w1.cell? ⟨w.heap.size, 8, none⟩ = some (.int .i64 t) := bX.cell 8
  go_wp2_with fail
  go_at_call 20
  refine (rlatest_any M B C J t run wait _).mono ?_
  rintro e w2 ⟨rfl, g2⟩
  rw [HLV.out, HLE.out]
  replace bX := bX.g g2
  replace gA := gA.trans g2
  clear c0 c1 c2 c3 c4 c5 c6 c7 c8
  clear g2
  have c0 : w2.cell? ⟨w.heap.size, 0, none⟩ = some (.int .i64 M) := bX.cell 0
  have c1 : w2.cell? ⟨w.heap.size, 1, none⟩ = some (.int .i64 B) := bX.cell 1
  have c2 : w2.cell? ⟨w.heap.size, 2, none⟩ = some (.int .i64 C) := bX.cell 2
  have c3 : w2.cell? ⟨w.heap.size, 3, none⟩ = some (.int .i64 J) := bX.cell 3
  have c4 : w2.cell? ⟨w.heap.size, 4, none⟩ = some (.int .u64 a) := bX.cell 4
  have c5 : w2.cell? ⟨w.heap.size, 5, none⟩ = some (.string s) := bX.cell 5
  have c6 : w2.cell? ⟨w.heap.size, 6, none⟩ = some (.int .i64 d) := bX.cell 6
  have c7 : w2.cell? ⟨w.heap.size, 7, none⟩ = some (.int .i64 n) := bX.cell 7
  have c8 : w2.cell? ⟨w.heap.size, 8, none⟩ = some (.int .i64 t) := bX.cell 8
  go_wp2_with fail
  go_at_call 21
  refine (earliest_any M B C J n t _).mono ?_
  rintro e w3 ⟨rfl, g3⟩
  rw [HEV.out, HEE.out]
  replace bX := bX.g g3
  replace gA := gA.trans g3
  clear c0 c1 c2 c3 c4 c5 c6 c7 c8
  clear g3
  have c0 : w3.cell? ⟨w.heap.size, 0, none⟩ = some (.int .i64 M) := bX.cell 0
  have c1 : w3.cell? ⟨w.heap.size, 1, none⟩ = some (.int .i64 B) := bX.cell 1
  have c2 : w3.cell? ⟨w.heap.size, 2, none⟩ = some (.int .i64 C) := bX.cell 2
  have c3 : w3.cell? ⟨w.heap.size, 3, none⟩ = some (.int .i64 J) := bX.cell 3
  have c4 : w3.cell? ⟨w.heap.size, 4, none⟩ = some (.int .u64 a) := bX.cell 4
  have c5 : w3.cell? ⟨w.heap.size, 5, none⟩ = some (.string s) := bX.cell 5
  have c6 : w3.cell? ⟨w.heap.size, 6, none⟩ = some (.int .i64 d) := bX.cell 6
  have c7 : w3.cell? ⟨w.heap.size, 7, none⟩ = some (.int .i64 n) := bX.cell 7
  have c8 : w3.cell? ⟨w.heap.size, 8, none⟩ = some (.int .i64 t) := bX.cell 8
  go_wp2_with fail
  go_at_call 22
  refine (rearliest_any M B C J n t _).mono ?_
  rintro e w4 ⟨rfl, g4⟩
  rw [HEV.out, HEE.out]
  replace bX := bX.g g4
  replace gA := gA.trans g4
  clear c0 c1 c2 c3 c4 c5 c6 c7 c8
  clear g4
  have c0 : w4.cell? ⟨w.heap.size, 0, none⟩ = some (.int .i64 M) := bX.cell 0
  have c1 : w4.cell? ⟨w.heap.size, 1, none⟩ = some (.int .i64 B) := bX.cell 1
  have c2 : w4.cell? ⟨w.heap.size, 2, none⟩ = some (.int .i64 C) := bX.cell 2
  have c3 : w4.cell? ⟨w.heap.size, 3, none⟩ = some (.int .i64 J) := bX.cell 3
  have c4 : w4.cell? ⟨w.heap.size, 4, none⟩ = some (.int .u64 a) := bX.cell 4
  have c5 : w4.cell? ⟨w.heap.size, 5, none⟩ = some (.string s) := bX.cell 5
  have c6 : w4.cell? ⟨w.heap.size, 6, none⟩ = some (.int .i64 d) := bX.cell 6
  have c7 : w4.cell? ⟨w.heap.size, 7, none⟩ = some (.int .i64 n) := bX.cell 7
  have c8 : w4.cell? ⟨w.heap.size, 8, none⟩ = some (.int .i64 t) := bX.cell 8
  go_wp2_with fail
  go_at_call 23
  refine (allowed_any M B C J n t x x0 x1 _).mono ?_
  rintro e w5 ⟨rfl, g5⟩
  rw [HAB.out, HEE.out]
  replace bX := bX.g g5
  replace gA := gA.trans g5
  clear c0 c1 c2 c3 c4 c5 c6 c7 c8
  clear g5
  have c0 : w5.cell? ⟨w.heap.size, 0, none⟩ = some (.int .i64 M) := bX.cell 0
  have c1 : w5.cell? ⟨w.heap.size, 1, none⟩ = some (.int .i64 B) := bX.cell 1
  have c2 : w5.cell? ⟨w.heap.size, 2, none⟩ = some (.int .i64 C) := bX.cell 2
  have c3 : w5.cell? ⟨w.heap.size, 3, none⟩ = some (.int .i64 J) := bX.cell 3
  have c4 : w5.cell? ⟨w.heap.size, 4, none⟩ = some (.int .u64 a) := bX.cell 4
  have c5 : w5.cell? ⟨w.heap.size, 5, none⟩ = some (.string s) := bX.cell 5
  have c6 : w5.cell? ⟨w.heap.size, 6, none⟩ = some (.int .i64 d) := bX.cell 6
  have c7 : w5.cell? ⟨w.heap.size, 7, none⟩ = some (.int .i64 n) := bX.cell 7
  have c8 : w5.cell? ⟨w.heap.size, 8, none⟩ = some (.int .i64 t) := bX.cell 8
  go_wp2_with fail
  go_at_call 24
  refine (rallowed_any M B C J n t x _).mono ?_
  rintro e w6 ⟨rfl, g6⟩
  rw [HAB.out, HEE.out]
  replace bX := bX.g g6
  replace gA := gA.trans g6
  clear c0 c1 c2 c3 c4 c5 c6 c7 c8
  clear g6
  have c0 : w6.cell? ⟨w.heap.size, 0, none⟩ = some (.int .i64 M) := bX.cell 0
  have c1 : w6.cell? ⟨w.heap.size, 1, none⟩ = some (.int .i64 B) := bX.cell 1
  have c2 : w6.cell? ⟨w.heap.size, 2, none⟩ = some (.int .i64 C) := bX.cell 2
  have c3 : w6.cell? ⟨w.heap.size, 3, none⟩ = some (.int .i64 J) := bX.cell 3
  have c4 : w6.cell? ⟨w.heap.size, 4, none⟩ = some (.int .u64 a) := bX.cell 4
  have c5 : w6.cell? ⟨w.heap.size, 5, none⟩ = some (.string s) := bX.cell 5
  have c6 : w6.cell? ⟨w.heap.size, 6, none⟩ = some (.int .i64 d) := bX.cell 6
  have c7 : w6.cell? ⟨w.heap.size, 7, none⟩ = some (.int .i64 n) := bX.cell 7
  have c8 : w6.cell? ⟨w.heap.size, 8, none⟩ = some (.int .i64 t) := bX.cell 8
  go_wp2_with fail
  go_at_call 25
  refine (left_any M B C J n _).mono ?_
  rintro e w7 ⟨rfl, g7⟩
  rw [HFV.out, HFE.out]
  replace bX := bX.g g7
  replace gA := gA.trans g7
  clear c0 c1 c2 c3 c4 c5 c6 c7 c8
  clear g7
  have c0 : w7.cell? ⟨w.heap.size, 0, none⟩ = some (.int .i64 M) := bX.cell 0
  have c1 : w7.cell? ⟨w.heap.size, 1, none⟩ = some (.int .i64 B) := bX.cell 1
  have c2 : w7.cell? ⟨w.heap.size, 2, none⟩ = some (.int .i64 C) := bX.cell 2
  have c3 : w7.cell? ⟨w.heap.size, 3, none⟩ = some (.int .i64 J) := bX.cell 3
  have c4 : w7.cell? ⟨w.heap.size, 4, none⟩ = some (.int .u64 a) := bX.cell 4
  have c5 : w7.cell? ⟨w.heap.size, 5, none⟩ = some (.string s) := bX.cell 5
  have c6 : w7.cell? ⟨w.heap.size, 6, none⟩ = some (.int .i64 d) := bX.cell 6
  have c7 : w7.cell? ⟨w.heap.size, 7, none⟩ = some (.int .i64 n) := bX.cell 7
  have c8 : w7.cell? ⟨w.heap.size, 8, none⟩ = some (.int .i64 t) := bX.cell 8
  go_wp2_with fail
  go_at_call 26
  refine (rleft_any M B C J n _).mono ?_
  rintro e w8 ⟨rfl, g8⟩
  rw [HFV.out, HFE.out]
  replace bX := bX.g g8
  replace gA := gA.trans g8
  clear c0 c1 c2 c3 c4 c5 c6 c7 c8
  clear g8
  have c0 : w8.cell? ⟨w.heap.size, 0, none⟩ = some (.int .i64 M) := bX.cell 0
  have c1 : w8.cell? ⟨w.heap.size, 1, none⟩ = some (.int .i64 B) := bX.cell 1
  have c2 : w8.cell? ⟨w.heap.size, 2, none⟩ = some (.int .i64 C) := bX.cell 2
  have c3 : w8.cell? ⟨w.heap.size, 3, none⟩ = some (.int .i64 J) := bX.cell 3
  have c4 : w8.cell? ⟨w.heap.size, 4, none⟩ = some (.int .u64 a) := bX.cell 4
  have c5 : w8.cell? ⟨w.heap.size, 5, none⟩ = some (.string s) := bX.cell 5
  have c6 : w8.cell? ⟨w.heap.size, 6, none⟩ = some (.int .i64 d) := bX.cell 6
  have c7 : w8.cell? ⟨w.heap.size, 7, none⟩ = some (.int .i64 n) := bX.cell 7
  have c8 : w8.cell? ⟨w.heap.size, 8, none⟩ = some (.int .i64 t) := bX.cell 8
  go_wp2_with fail
  go_at_call 12
  refine (works_any _ (HT.out.g gA)).mono ?_
  rintro e w99 ⟨rfl, g99⟩
  replace gA := gA.trans g99
  clear g99
  go_wp2_with fail
  go_ret
  exact ⟨rfl, gA⟩

set_option maxRecDepth 4000 in
set_option maxHeartbeats 2000000 in
theorem contract (H : Type) (enc : TypeId × Value → H) (W : World) (base : Nat) (args : Array Value) (ds gs : List (DataW H)) (before : List MemPlace)
    (hval : ∀ (j : Nat) t v, Tryd.f5.params[j]? = some t → args[j]? = some v → Value.okWide Tryd.prog W .any base t v)
    (hW : DataW.Whole enc Tryd.prog Tryd.f5.params.toList Rows.retryBoundsSpec.vars false W args.toList ds gs before) (hL : laidMetH Tryd.prog Rows.retryBoundsRow.laid W) :
    Calls Tryd.prog 5 args W fun e W' => ∃ v, e = .returned v ∧ Rows.retryBoundsSpec.post enc Tryd.prog Tryd.f5 false true false false W args v W' := by
  have hW' := hW
  obtain ⟨p, q, hA0, hV, rfl, hfz, hnd⟩ := hW
  have hA : DataW.TrodAll enc Tryd.prog W 0 (fun _ => true) true Tryd.f5.params.toList args.toList ds p := hA0
  rw [Tryd.params5] at hA hval
  obtain ⟨v0, vs0, d0, ds0, p0, q0, hargs, rfl, rfl, h0, r0⟩ := trodAll_cons hA
  obtain ⟨v1, vs1, d1, ds1, p1, q1, rfl, rfl, rfl, h1, r1⟩ := trodAll_cons r0
  obtain ⟨v2, vs2, d2, ds2, p2, q2, rfl, rfl, rfl, h2, r2⟩ := trodAll_cons r1
  obtain ⟨v3, vs3, d3, ds3, p3, q3, rfl, rfl, rfl, h3, r3⟩ := trodAll_cons r2
  obtain ⟨rfl, rfl, rfl⟩ := trodAll_nil r3
  obtain rfl : args = #[v0, v1, v2, v3] := by first | exact Array.ext' hargs | (cases args; simp_all)
  obtain ⟨M0, B0, C0, J0, a0, s0, u0, n0, t0, rfl, ra0, rs0, ru0, rn0, rt0⟩ := open_case (hval 0 26 v0 rfl rfl) h0
  obtain ⟨a1, rfl, rfl, rfl, w1⟩ := open_int Tryd.underlying2 (hval 1 2 v1 rfl rfl) h1
  simp [Lit.wf, IntKind.min, IntKind.max, IntKind.bits, IntKind.signed] at w1
  obtain ⟨a2, rfl, rfl, rfl, w2⟩ := open_int Tryd.underlying2 (hval 2 2 v2 rfl rfl) h2
  simp [Lit.wf, IntKind.min, IntKind.max, IntKind.bits, IntKind.signed] at w2
  obtain ⟨a3, rfl, rfl, rfl, w3⟩ := open_int Tryd.underlying2 (hval 3 2 v3 rfl rfl) h3
  simp [Lit.wf, IntKind.min, IntKind.max, IntKind.bits, IntKind.signed] at w3
  refine (walk (w := W) M0 B0 C0 J0 a0 s0 u0 n0 t0 ra0 rs0 ru0 rn0 rt0 a1 (by omega) (by omega) a2 (by omega) (by omega) a3 (by omega) (by omega) (tab_of hL)).mono fun e W' ⟨he, hg⟩ => ?_
  subst he
  exact ⟨_, rfl, law_post laidOut_ (by
    intro t ht
    rw [Tryd.params5] at ht
    simp at ht
    rcases ht with rfl | rfl <;> exact ⟨by kernel_rfl, by decide +kernel⟩) hW' rfl rfl (by kernel_rfl) Tryd.underlying4 hg⟩
theorem laid_met (os : Os) : laidMet Tryd.prog Rows.retryBoundsRow.laid ((laidWorld os).forCall (fun _ _ => 0) ⟨#[], #[.agg #[.int .i64 0, .int .i64 0, .int .i64 0, .int .i64 0, .int .u64 0, .string ByteArray.empty, .int .i64 0, .int .i64 0, .int .i64 0], .int .i64 0, .int .i64 0, .int .i64 0], []⟩).memory :=
  laidMet_of_run' 8 (by kernel_rfl) (by kernel_rfl)
theorem reads (os : Os) {H : Type} (enc : TypeId × Value → H) : ∃ places, DataW.whole enc Tryd.prog ((laidWorld os).forCall (fun _ _ => 0) ⟨#[], #[.agg #[.int .i64 0, .int .i64 0, .int .i64 0, .int .i64 0, .int .u64 0, .string ByteArray.empty, .int .i64 0, .int .i64 0, .int .i64 0], .int .i64 0, .int .i64 0, .int .i64 0], []⟩).memory Tryd.f5.params.toList Rows.retryBoundsSpec.vars false (#[.agg #[.int .i64 0, .int .i64 0, .int .i64 0, .int .i64 0, .int .u64 0, .string ByteArray.empty, .int .i64 0, .int .i64 0, .int .i64 0], .int .i64 0, .int .i64 0, .int .i64 0] : Array Value).toList 8 = some ([.agg [.agg [.lit (.int .i64 0), .lit (.int .i64 0), .lit (.int .i64 0), .lit (.int .i64 0)], .lit (.int .u64 0), .lit (.string []), .lit (.int .i64 0), .lit (.int .i64 0), .lit (.int .i64 0)], .lit (.int .i64 0), .lit (.int .i64 0), .lit (.int .i64 0)], [], places) :=
  ⟨[], by kernel_rfl⟩
set_option maxRecDepth 100000 in
theorem lifted (os : Os) (started : os.Started) (H : Type) (enc : TypeId × Value → H) (F : Stop.Interp) :
    ReturnsInHanded {} Tryd.checked os 5 .any ((OpenSpec.ofChange Rows.retryBoundsSpec).preRow enc Tryd.prog Tryd.f5 Rows.retryBoundsRow.domain false Rows.retryBoundsRow.laid) (((OpenSpec.ofChange Rows.retryBoundsSpec).at F).post enc Tryd.prog Tryd.f5 false true false false) := by
  obtain ⟨places, hx⟩ := reads os enc
  refine returnsInHanded_of_row (C := Tryd.checked) (s := OpenSpec.ofChange Rows.retryBoundsSpec) own_ started (by kernel_rfl) Tryd.func5
    (witness_row_at (enc := enc) (C := Tryd.checked) false (laidWorld os) #[.agg #[.int .i64 0, .int .i64 0, .int .i64 0, .int .i64 0, .int .u64 0, .string ByteArray.empty, .int .i64 0, .int .i64 0, .int .i64 0], .int .i64 0, .int .i64 0, .int .i64 0] rfl (by kernel_rfl) (by kernel_rfl) (by kernel_rfl)
      (OpenSpec.preRow_of_cond 8 hx (by kernel_rfl) (fun k hk => by cases hk) (by kernel_rfl) (laid_met os))) ?_
  intro W base args ds gs before hval hW _ _ _ hL _ _
  exact contract H enc W base args ds gs before hval hW hL
theorem said : Rows.RetryBoundsSaid :=
  OpenClaim.holds_of_cond 5 Tryd.f5 rfl rfl rfl rfl rfl rfl rfl ⟨rfl, rfl, rfl, rfl, rfl⟩ rfl rfl rfl rfl rfl (by kernel_rfl) Tryd.func5 (by kernel_rfl)
    (of_decide_eq_true (by kernel_rfl)) (by unfold Func.isWrapper; first | (rw [if_pos (by decide +kernel)]; kernel_rfl) | (rw [if_neg (by decide +kernel)]; exact ⟨rfl, rfl⟩))
    (fun os started H enc _ F => by rw [OpenClaim.pre_eq_preRow]; exact lifted os started H enc F)
theorem plain (f : FuncId) (fn : Func) (hf : Tryd.pinned.checked.prog.funcNamed "wakeman/wakemanlaw31.RetryBounds" = some f) (hfn : Tryd.pinned.checked.prog.funcs[f]? = some fn) :
    false = Tryd.pinned.checked.prog.looks [] ∧ ∀ (j : Nat) t, fn.params[j]? = some t → Tryd.pinned.checked.prog.wantsStandIn t = false := by
  obtain rfl : f = 5 := Option.some.inj ((show Tryd.prog.funcNamed "wakeman/wakemanlaw31.RetryBounds" = some 5 by kernel_rfl).symm.trans hf) |>.symm
  obtain rfl : fn = Tryd.f5 := (Option.some.inj (Tryd.func5.symm.trans hfn)).symm
  refine ⟨by kernel_rfl, fun j t ht => ?_⟩
  rw [Tryd.params5] at ht
  have hm := Array.mem_of_getElem? ht
  simp at hm
  rcases hm with rfl | rfl
  · exact (show Tryd.prog.wantsStandIn 26 = false by kernel_rfl)
  · exact (show Tryd.prog.wantsStandIn 2 = false by kernel_rfl)
theorem card : Rows.RetryBoundsCardSaid :=
  Claim7.holds_tied_plain_at .later [] _ _ _ _ said (fun _ h => by cases h) (by kernel_rfl) (fun _ h => by cases h) retryBounds_row_tie rfl ⟨rfl, rfl⟩ (by kernel_rfl) rfl plain (by kernel_rfl)
#print axioms card
end Go.Proofs.YtanipfenioaigaaDoor.lawRetryBounds
