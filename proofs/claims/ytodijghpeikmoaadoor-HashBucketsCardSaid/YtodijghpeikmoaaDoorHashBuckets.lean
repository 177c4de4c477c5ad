/-
  HashBuckets: how many names have each place is as the document says, or the errors.
  Conditions: none beyond the row's own (the table of package mix as the program's text lays it).
-/
import Derived.Test.YtodijghpeikmoaaDoorTieS
import Derived.Test.YtodijghpeikmoaaDoorHsU
set_option linter.unusedVariables false
set_option linter.unusedSimpArgs false
namespace Go.Proofs.YtodijghpeikmoaaDoor.lawHashBuckets
open Go.ChangeShapes Go.WideShapes Go.ChangeAt Go.RowKit

theorem all_take (l : List ByteArray) (k : Nat) (h : ∀ j, j < k → (l[j]?.getD ByteArray.empty).size ≤ 100) (hk : l.length ≤ k) : okS l := by
  intro j
  rcases Nat.lt_or_ge j l.length with hj | hj
  · have := h j (by omega); omega
  · rw [List.getElem?_eq_none hj]; decide
set_option maxHeartbeats 4000000 in
theorem walk (w : World) (v : Value) (l : List ByteArray) (R : Rd w v (vS l)) (B : ∀ s ∈ l, s.size ≤ 9223372036854775807) (a : Int) (a0 : 0 ≤ a) (a1 : a ≤ 18446744073709551615) (n : Int) (n0 : -9223372036854775808 ≤ n) (n1 : n ≤ 9223372036854775807) (ht : Tab w) :
    Calls Tryd.prog 4 #[v, .int .u64 a, .int .i64 n] w fun e w' => e = .returned (.bool true) ∧ G w w' := by
  have HT := Lib.hid ht
  have hu : u64 a := ⟨a0, by omega⟩
  clear ht B
  have HV := Lib.hid R
  obtain ⟨A, c, rfl, hcc, hcm, hr⟩ := R
  rw [vS_len] at *
  have HR : Hid (∀ k, k < l.length → ∃ b o, A = some ⟨b, o, none⟩ ∧ w.cell? ⟨b, o + k, none⟩ = some (.string (l[k]?.getD ByteArray.empty))) := Lib.hid (fun k hk => by
      obtain ⟨b, o, e, h⟩ := hr (by omega)
      exact ⟨b, o, e, h k _ (vS_get hk)⟩)
  clear hr
  by_cases hbig : 100 < l.length
  · go_enter Tryd.func4, Tryd.ntmps4
    go_wp2_with fail
    go_at_call 13
    refine (works_any _ HT.out).mono ?_
    rintro e w8 ⟨rfl, g8⟩
    go_wp2_with fail
    go_ret
    exact ⟨rfl, (by repeat (first | exact G.refl _ | refine G.alloc ?_ _ | refine G.drewN ?_ _ | refine G.drew ?_ | refine G.trans ?_ (by assumption)))⟩
  · have hll : l.length ≤ 100 := by omega
    clear hbig
    go_enter Tryd.func4, Tryd.ntmps4
    go_wp2_with fail
    go_loopw [7] (fun kv wr => ∃ k : Nat, k ≤ l.length ∧ kv = .int .i64 k ∧ (∀ j, j < k → (l[j]?.getD ByteArray.empty).size ≤ 100) ∧ G w wr) (fun kv _ => l.length - (intOf kv).toNat)
    case atStart => exact ⟨0, by omega, rfl, fun j hj => absurd hj (by omega), G.refl _⟩
    case round =>
      obtain ⟨k, hk, rfl, hs, hg⟩ := hrel
      have HS := Lib.hid hs
      clear hs
      by_cases hlt : k < l.length
      · have hkl : (k : Int) < l.length := by omega
        obtain ⟨b, o, rfl, hcell⟩ := HR.out k hlt
        have d0 := hg.cell (World.block_lt_of_cell? w _ hcell) hcell
        have HN : Hid ((l[k]?.getD ByteArray.empty).size ≤ 100 → ∀ j, j < k + 1 → (l[j]?.getD ByteArray.empty).size ≤ 100) := Lib.hid (fun h j hj => by
          rcases Nat.lt_or_ge j k with h2 | h2
          · exact HS.out j h2
          · obtain rfl : j = k := by omega
            exact h)
        clear HS
        generalize l[k]?.getD ByteArray.empty = s at *
        by_cases hsb : 100 < s.size
        · clear HN
          go_wp2_with fail
          go_at_call 13
          refine (works_any _ (HT.out.g hg)).mono ?_
          rintro e w8 ⟨rfl, g8⟩
          go_wp2_with fail
          go_ret
          exact ⟨rfl, hg.trans g8⟩
        · have hs1 : s.size ≤ 100 := by omega
          have HN2 := Lib.hid (HN.out hs1)
          have hs2 : s.size < 9223372036854775807 := by omega
          clear HN hsb
          go_wp2_with fail
          go_roundw
          case rel => exact ⟨k + 1, by omega, by go_num, HN2.out, hg⟩
          case measure => simp [intOf]; omega
      · obtain rfl : k = l.length := by omega
        have HO := Lib.hid (all_take l _ HS.out (Nat.le_refl _))
        clear HS
        have hL : (bkL l a n).length ≤ 100 := by
          by_cases hE : bkE l n = 0
          · have h2 : n ≤ 64 := by
              unfold bkE at hE
              split at hE
              · split at hE
                · omega
                · omega
              · omega
            unfold bkL
            rw [if_pos hE, cntL_len]
            omega
          · unfold bkL
            rw [if_neg hE]
            simp
        go_wp2_with fail
        go_at_call 18
        refine (buckets_any l _ a n hu _ (HV.out.g hg) (HT.out.g hg)).mono ?_
        rintro e w1 ⟨v1, rfl, r1, g1⟩
        have gA := hg.trans g1
        clear g1 hg
        go_wp2_with fail
        go_at_call 19
        refine (rbuckets_any l _ a n hu _ (HV.out.g gA) HO.out).mono ?_
        rintro e w2 ⟨v2, rfl, r2, g2⟩
        have gB := gA.trans g2
        replace r1 := r1.g g2
        clear g2 gA
        generalize bkL l a n = L at *
        generalize bkE l n = y at *
        obtain ⟨A1, c1, rfl, hc1, hm1, hr1⟩ := r1
        obtain ⟨A2, c2, rfl, hc2, hm2, hr2⟩ := r2
        rw [vI_len] at *
        have H1 := Lib.hid hr1
        have H2 := Lib.hid hr2
        clear hr1 hr2
        go_wp2_with fail
        go_loopw [12] (fun kv wr => ∃ k : Nat, k ≤ L.length ∧ kv = .int .i64 k ∧ G w2 wr) (fun kv _ => L.length - (intOf kv).toNat)
        case atStart => exact ⟨0, by omega, rfl, G.refl _⟩
        case round =>
          obtain ⟨k, hk, rfl, hg⟩ := hrel
          by_cases hlt : k < L.length
          · have hkl : (k : Int) < L.length := by omega
            obtain ⟨b1, o1, rfl, hc1⟩ := H1.out (by omega)
            obtain ⟨b2, o2, rfl, hc2⟩ := H2.out (by omega)
            have e1 := hc1 k _ (vI_get hlt)
            have e2 := hc2 k _ (vI_get hlt)
            have f1 := hg.cell (World.block_lt_of_cell? w2 _ e1) e1
            have f2 := hg.cell (World.block_lt_of_cell? w2 _ e2) e2
            clear hc1 hc2 e1 e2 H1 H2
            go_wp2_with fail
            go_quiet (fail)
            go_wp2_with fail
            go_roundw
            case rel => exact ⟨k + 1, by omega, by go_num, hg.drewN _⟩
            case measure => simp [intOf]; omega
          · obtain rfl : k = L.length := by omega
            clear H1 H2
            go_wp2_with fail
            go_at_call 13
            refine (works_any _ (HT.out.g (gB.trans hg))).mono ?_
            rintro e w8 ⟨rfl, g8⟩
            have gE := (gB.trans hg).trans g8
            clear g8 gB
            go_wp2_with fail
            go_ret
            exact ⟨rfl, gE⟩

set_option maxHeartbeats 2000000 in
theorem contract (H : Type) (enc : TypeId × Value → H) (W : World) (base : Nat) (args : Array Value) (ds gs : List (DataW H)) (before : List MemPlace)
    (hval : ∀ (j : Nat) t v, Tryd.f4.params[j]? = some t → args[j]? = some v → Value.okWide Tryd.prog W .any base t v)
    (hW : DataW.Whole enc Tryd.prog Tryd.f4.params.toList Rows.hashBucketsSpec.vars false W args.toList ds gs before) (hL : laidMetH Tryd.prog Rows.hashBucketsRow.laid W) :
    Calls Tryd.prog 4 args W fun e W' => ∃ v, e = .returned v ∧ Rows.hashBucketsSpec.post enc Tryd.prog Tryd.f4 false true false false W args v W' := by
  have hW' := hW
  obtain ⟨p, q, hA0, hV, rfl, hfz, hnd⟩ := hW
  have hA : DataW.TrodAll enc Tryd.prog W 0 (fun _ => true) true Tryd.f4.params.toList args.toList ds p := hA0
  rw [Tryd.params4] at hA hval
  obtain ⟨v0, vs0, d0, ds0, p0, q0, hargs, rfl, rfl, h0, r0⟩ := trodAll_cons hA
  obtain ⟨v1, vs1, d1, ds1, p1, q1, rfl, rfl, rfl, h1, r1⟩ := trodAll_cons r0
  obtain ⟨v2, vs2, d2, ds2, p2, q2, rfl, rfl, rfl, h2, r2⟩ := trodAll_cons r1
  obtain ⟨rfl, rfl, rfl⟩ := trodAll_nil r2
  obtain rfl : args = #[v0, v1, v2] := by cases args; simp_all
  obtain ⟨l0, R0, B0⟩ := open_texts Tryd.underlying22 Tryd.underlying9 (by kernel_rfl) (hval 0 22 v0 rfl rfl) h0
  obtain ⟨a1, rfl, rfl, rfl, w1⟩ := open_int Tryd.underlying23 (hval 1 23 v1 rfl rfl) h1
  simp [Lit.wf, IntKind.min, IntKind.max, IntKind.bits, IntKind.signed] at w1
  obtain ⟨a2, rfl, rfl, rfl, w2⟩ := open_int Tryd.underlying3 (hval 2 3 v2 rfl rfl) h2
  simp [Lit.wf, IntKind.min, IntKind.max, IntKind.bits, IntKind.signed] at w2
  refine (walk (w := W) v0 l0 R0 B0 a1 (by omega) (by omega) a2 (by omega) (by omega) (tab_of hL)).mono fun e W' ⟨he, hg⟩ => ?_
  subst he
  exact ⟨_, rfl, law_post laidOut_ (by
    intro t ht
    rw [Tryd.params4] at ht
    simp at ht
    rcases ht with rfl | rfl | rfl <;> exact ⟨by kernel_rfl, by decide +kernel⟩) hW' rfl rfl (by kernel_rfl) Tryd.underlying4 hg⟩
theorem laid_met (os : Os) : laidMet Tryd.prog Rows.hashBucketsRow.laid ((laidWorld os).forCall (fun _ _ => 0) ⟨#[], #[.slice none 0 0, .int .u64 0, .int .i64 0], []⟩).memory :=
  laidMet_of_run' 8 (by kernel_rfl) (by kernel_rfl)
theorem reads (os : Os) {H : Type} (enc : TypeId × Value → H) : ∃ places, DataW.whole enc Tryd.prog ((laidWorld os).forCall (fun _ _ => 0) ⟨#[], #[.slice none 0 0, .int .u64 0, .int .i64 0], []⟩).memory Tryd.f4.params.toList Rows.hashBucketsSpec.vars false (#[.slice none 0 0, .int .u64 0, .int .i64 0] : Array Value).toList 8 = some ([.nil, .lit (.int .u64 0), .lit (.int .i64 0)], [], places) :=
  ⟨[], by kernel_rfl⟩
set_option maxRecDepth 100000 in
theorem lifted (os : Os) (started : os.Started) (H : Type) (enc : TypeId × Value → H) (F : Stop.Interp) :
    ReturnsInHanded {} Tryd.checked os 4 .any ((OpenSpec.ofChange Rows.hashBucketsSpec).preRow enc Tryd.prog Tryd.f4 Rows.hashBucketsRow.domain false Rows.hashBucketsRow.laid) (((OpenSpec.ofChange Rows.hashBucketsSpec).at F).post enc Tryd.prog Tryd.f4 false true false false) := by
  obtain ⟨places, hx⟩ := reads os enc
  refine returnsInHanded_of_row (C := Tryd.checked) (s := OpenSpec.ofChange Rows.hashBucketsSpec) own_ started (by kernel_rfl) Tryd.func4
    (witness_row_at (enc := enc) (C := Tryd.checked) false (laidWorld os) #[.slice none 0 0, .int .u64 0, .int .i64 0] rfl (by kernel_rfl) (by kernel_rfl) (by kernel_rfl)
      (OpenSpec.preRow_of_cond 8 hx (by kernel_rfl) (fun k hk => by cases hk) (by kernel_rfl) (laid_met os))) ?_
  intro W base args ds gs before hval hW _ _ _ hL _ _
  exact contract H enc W base args ds gs before hval hW hL
theorem said : Rows.HashBucketsSaid :=
  OpenClaim.holds_of_cond 4 Tryd.f4 rfl rfl rfl rfl rfl rfl rfl ⟨rfl, rfl, rfl, rfl, rfl⟩ rfl rfl rfl rfl rfl (by kernel_rfl) Tryd.func4 (by kernel_rfl)
    (of_decide_eq_true (by kernel_rfl)) (by unfold Func.isWrapper; first | (rw [if_pos (by decide +kernel)]; kernel_rfl) | (rw [if_neg (by decide +kernel)]; exact ⟨rfl, rfl⟩))
    (fun os started H enc _ F => by rw [OpenClaim.pre_eq_preRow]; exact lifted os started H enc F)
theorem plain (f : FuncId) (fn : Func) (hf : Tryd.pinned.checked.prog.funcNamed "wakeman/wakemanlaw28.HashBuckets" = some f) (hfn : Tryd.pinned.checked.prog.funcs[f]? = some fn) :
    false = Tryd.pinned.checked.prog.looks [] ∧ ∀ (j : Nat) t, fn.params[j]? = some t → Tryd.pinned.checked.prog.wantsStandIn t = false := by
  obtain rfl : f = 4 := Option.some.inj ((show Tryd.prog.funcNamed "wakeman/wakemanlaw28.HashBuckets" = some 4 by kernel_rfl).symm.trans hf) |>.symm
  obtain rfl : fn = Tryd.f4 := (Option.some.inj (Tryd.func4.symm.trans hfn)).symm
  refine ⟨by kernel_rfl, fun j t ht => ?_⟩
  rw [Tryd.params4] at ht
  have hm := Array.mem_of_getElem? ht
  simp at hm
  rcases hm with rfl | rfl | rfl
  · exact (show Tryd.prog.wantsStandIn 22 = false by kernel_rfl)
  · exact (show Tryd.prog.wantsStandIn 23 = false by kernel_rfl)
  · exact (show Tryd.prog.wantsStandIn 3 = false by kernel_rfl)
theorem card : Rows.HashBucketsCardSaid :=
  Claim7.holds_tied_plain_at .later [] _ _ _ _ said (fun _ h => by cases h) (by kernel_rfl) (fun _ h => by cases h) hashBuckets_row_tie rfl ⟨rfl, rfl⟩ (by kernel_rfl) rfl plain (by kernel_rfl)
#print axioms card
end Go.Proofs.YtodijghpeikmoaaDoor.lawHashBuckets
