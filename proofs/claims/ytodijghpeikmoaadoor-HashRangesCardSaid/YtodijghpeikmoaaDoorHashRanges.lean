/-
  HashRanges: splays are below their length, and those of a list are those of its names; each is the place of its name.
  Conditions: none beyond the row's own (the table of package mix as the program's text lays it).
-/
import Derived.Test.YtodijghpeikmoaaDoorTieS
import Derived.Test.YtodijghpeikmoaaDoorHsU
set_option linter.unusedVariables false
set_option linter.unusedSimpArgs false
namespace Go.Proofs.YtodijghpeikmoaaDoor.lawHashRanges
open Go.ChangeShapes Go.WideShapes Go.ChangeAt Go.RowKit

theorem spE_one {l : List ByteArray} {n : Int} (h : spE l n = 0) : (0 ≤ n ∧ n ≤ 68719476736) ∧ l.length ≤ 64 ∧ okS l ∧ ∀ k, k < l.length → spE [l[k]?.getD ByteArray.empty] n = 0 := by
  have hc : chkH l = 0 := by
    unfold spE at h
    split at h
    · assumption
    · exact h
  have hn : 0 ≤ n ∧ n ≤ 68719476736 := by
    unfold spE at h
    rw [if_pos hc] at h
    split at h
    · assumption
    · omega
  have ha : nmsAll l = true := by
    unfold chkH at hc
    split at hc
    · omega
    · split at hc
      · assumption
      · omega
  refine ⟨hn, chkH_ok hc, chk_okS hc, fun k hk => ?_⟩
  have h1 : nmB (l[k]?.getD ByteArray.empty) = true := by
    rw [List.getElem?_eq_getElem hk]
    exact List.all_eq_true.1 ha _ (List.getElem_mem hk)
  have h2 : chkH [l[k]?.getD ByteArray.empty] = 0 := by
    unfold chkH
    rw [if_neg (by simp), if_pos (by simp [nmsAll, h1])]
  unfold spE
  rw [if_pos h2, if_pos hn]
theorem spV_ok {a n : Int} {s : ByteArray} (h : spE [s] n = 0) : spV a n s = placeI a (max n 1) s := if_pos h
theorem spL_ok {a n : Int} {l : List ByteArray} (h : spE l n = 0) : spL a n l = plL a (max n 1) l := if_pos h
theorem plL_get (a n : Int) (l : List ByteArray) {k : Nat} (hk : k < l.length) : (plL a n l)[k]?.getD 0 = placeI a n (l[k]?.getD ByteArray.empty) := by
  unfold plL
  rw [List.getElem?_map, List.getElem?_eq_getElem hk]
  rfl
set_option maxHeartbeats 4000000 in
theorem walk (w : World) (v : Value) (l : List ByteArray) (R : Rd w v (vS l)) (B : ∀ s ∈ l, s.size ≤ 9223372036854775807) (a : Int) (a0 : 0 ≤ a) (a1 : a ≤ 18446744073709551615) (n : Int) (n0 : -9223372036854775808 ≤ n) (n1 : n ≤ 9223372036854775807) (ht : Tab w) :
    Calls Tryd.prog 8 #[v, .int .u64 a, .int .i64 n] w fun e w' => e = .returned (.bool true) ∧ G w w' := by
  have HT := Lib.hid ht
  have hu : u64 a := ⟨a0, by omega⟩
  clear ht B
  have HV := Lib.hid R
  obtain ⟨A, c, rfl, hcc, hcm, hr⟩ := R
  rw [vS_len] at *
  have HR : Hid (∀ k, k < l.length → ∃ b o, A = some ⟨b, o, none⟩ ∧ w.cell? ⟨b, o + k, none⟩ = some (.string (l[k]?.getD ByteArray.empty))) := Lib.hid (fun k hk => by
      obtain ⟨b, o, e, h⟩ := hr (by omega)
      exact ⟨b, o, e, h k _ (vS_get hk)⟩)
  clear hr
  by_cases hbig : 64 < l.length
  · go_enter Tryd.func8, Tryd.ntmps8
    go_wp2_with fail
    go_at_call 13
    refine (works_any _ HT.out).mono ?_
    rintro e w8 ⟨rfl, g8⟩
    go_wp2_with fail
    go_ret
    exact ⟨rfl, (by repeat (first | exact G.refl _ | refine G.alloc ?_ _ | refine G.drewN ?_ _ | refine G.drew ?_ | refine G.trans ?_ (by assumption)))⟩
  · have hll : l.length ≤ 64 := by omega
    clear hbig
    by_cases hE : spE l n = 0
    · obtain ⟨⟨hn0, hn1⟩, -, hok, hone⟩ := spE_one hE
      have HO := Lib.hid hok
      have HE := Lib.hid hE
      have H1 := Lib.hid hone
      have HL : Hid (spL a n l = plL a (max n 1) l) := Lib.hid (spL_ok hE)
      have HX : Hid (∀ k, k < l.length → spV a n (l[k]?.getD ByteArray.empty) = placeI a (max n 1) (l[k]?.getD ByteArray.empty)) := Lib.hid (fun k hk => spV_ok (hone k hk))
      have HG : Hid (∀ k, k < l.length → (plL a (max n 1) l)[k]?.getD 0 = placeI a (max n 1) (l[k]?.getD ByteArray.empty)) := Lib.hid (fun k hk => plL_get a _ l hk)
      have hpl := plL_len a (max n 1) l
      clear hok hone hE
      go_enter Tryd.func8, Tryd.ntmps8
      go_wp2_with fail
      go_at_call 16
      refine (splays_any l _ a n hu n0 n1 _ HV.out HT.out).mono ?_
      rintro e w1 ⟨v1, rfl, r1, g1⟩
      rw [HE.out]
      rw [HL.out] at r1
      obtain ⟨A1, c1, rfl, hc1, hm1, hr1⟩ := r1
      have H2 : Hid (∀ k, k < l.length → ∃ b o, A1 = some ⟨b, o, none⟩ ∧ w1.cell? ⟨b, o + k, none⟩ = some (.int .i64 (placeI a (max n 1) (l[k]?.getD ByteArray.empty)))) := Lib.hid (fun k hk => by
        obtain ⟨b, o, e, h⟩ := hr1 (by rw [vI_len]; omega)
        refine ⟨b, o, e, ?_⟩
        rw [← HG.out k hk]
        exact h k _ (vI_get (by omega)))
      rw [vI_len, hpl] at *
      clear hr1 hpl HG HL
      rcases Int.lt_or_le 0 n with hpos | hneg
      · have hmx : max n 1 = n := by omega
        rw [hmx] at HX H2
        have hwn : IntKind.u64.wrap n = n := by rw [IntKind.wrap_u64]; omega
        have hnz : (n == 0) = false := by simp; omega
        have hwr : IntKind.i64.wrap a = wrap64 a := by rw [IntKind.wrap_i64]; unfold wrap64; omega
        have hw : -9223372036854775808 ≤ wrap64 a ∧ wrap64 a ≤ 9223372036854775807 := by unfold wrap64; omega
        have hn1' : 1 ≤ n := by omega
        have HW := Lib.hid hw
        clear hw hmx
        go_wp2_with fail
        go_loopw [9] (fun kv wr => ∃ k : Nat, k ≤ l.length ∧ kv = .int .i64 k ∧ G w1 wr) (fun kv _ => l.length - (intOf kv).toNat)
        case atStart => exact ⟨0, by omega, rfl, G.refl _⟩
        case round =>
          obtain ⟨k, hk, rfl, hg⟩ := hrel
          by_cases hlt : k < l.length
          · have hkl : (k : Int) < l.length := by omega
            obtain ⟨b, o, rfl, hcell⟩ := HR.out k hlt
            obtain ⟨b1, o1, rfl, hcell1⟩ := H2.out k hlt
            have e0 := g1.cell (World.block_lt_of_cell? w _ hcell) hcell
            have d0 := hg.cell (World.block_lt_of_cell? w1 _ e0) e0
            have d1 := hg.cell (World.block_lt_of_cell? w1 _ hcell1) hcell1
            have HY := Lib.hid (HX.out k hlt)
            have HZ := Lib.hid (H1.out k hlt)
            have HS := Lib.hid (HO.out k)
            clear hcell hcell1 e0
            generalize l[k]?.getD ByteArray.empty = s at *
            obtain ⟨p0, p1⟩ := placeI_bd a n s hpos
            have HP : Hid (hiI (mixI (hN (sumS s) (wrap64 a))) n = placeI a n s) := Lib.hid rfl
            go_wp2_with fail
            go_at_call 14
            refine (splay_any s a n hu n0 n1 HS.out _ (HT.out.g (g1.trans hg))).mono ?_
            rintro e w2 ⟨rfl, g2⟩
            rw [HY.out, HZ.out]
            have d2 := g2.cell (World.block_lt_of_cell? wr _ d0) d0
            have d3 := g2.cell (World.block_lt_of_cell? wr _ d1) d1
            have gA := hg.trans g2
            clear d0 d1 HZ HY
            generalize placeI a n s = x at *
            have hwx : IntKind.i64.wrap x = x := by rw [IntKind.wrap_i64]; omega
            go_wp2_with fail
            go_at_call 21
            refine (sum_any s HS.out _).mono ?_
            rintro e w3 ⟨rfl, g3⟩
            go_wp2_with fail
            go_at_call 22
            refine (num_any _ _ (sumS_bd s) HW.out.1 HW.out.2 _).mono ?_
            rintro e w4 ⟨rfl, g4⟩
            have gB := gA.trans (g3.trans g4)
            go_wp2_with fail
            go_at_call 24
            refine (mix_any _ (hN_bd (sumS_bd s) _).1 (hN_bd (sumS_bd s) _).2 _ (HT.out.g (g1.trans gB))).mono ?_
            rintro e w5 ⟨rfl, g5⟩
            go_wp2_with fail
            go_at_call 23
            refine (below_any _ n (mixI_u _).1 (mixI_u _).2 hpos (by omega) _).mono ?_
            rintro e w6 ⟨rfl, rfl⟩
            rw [HP.out]
            have gC := gB.trans g5
            clear g2 g3 g4 g5 gA gB
            go_wp2_with fail
            go_roundw
            case rel => exact ⟨k + 1, by omega, by go_num, gC⟩
            case measure => simp [intOf]; omega
          · obtain rfl : k = l.length := by omega
            go_wp2_with fail
            go_at_call 13
            refine (works_any _ (HT.out.g (g1.trans hg))).mono ?_
            rintro e w8 ⟨rfl, g8⟩
            have gE := (g1.trans hg).trans g8
            go_wp2_with fail
            go_ret
            exact ⟨rfl, gE⟩
      · obtain rfl : n = 0 := by omega
        rw [show max (0 : Int) 1 = 1 from rfl] at HX H2
        go_wp2_with fail
        go_loopw [9] (fun kv wr => ∃ k : Nat, k ≤ l.length ∧ kv = .int .i64 k ∧ G w1 wr) (fun kv _ => l.length - (intOf kv).toNat)
        case atStart => exact ⟨0, by omega, rfl, G.refl _⟩
        case round =>
          obtain ⟨k, hk, rfl, hg⟩ := hrel
          by_cases hlt : k < l.length
          · have hkl : (k : Int) < l.length := by omega
            obtain ⟨b, o, rfl, hcell⟩ := HR.out k hlt
            obtain ⟨b1, o1, rfl, hcell1⟩ := H2.out k hlt
            have e0 := g1.cell (World.block_lt_of_cell? w _ hcell) hcell
            have d0 := hg.cell (World.block_lt_of_cell? w1 _ e0) e0
            have d1 := hg.cell (World.block_lt_of_cell? w1 _ hcell1) hcell1
            have HY := Lib.hid (HX.out k hlt)
            have HZ := Lib.hid (H1.out k hlt)
            have HS := Lib.hid (HO.out k)
            clear hcell hcell1 e0
            generalize l[k]?.getD ByteArray.empty = s at *
            have HP : Hid (placeI a 1 s = 0) := Lib.hid (place_zero a s)
            rw [HP.out] at d1 HY
            clear HP
            go_wp2_with fail
            go_at_call 14
            refine (splay_any s a 0 hu n0 n1 HS.out _ (HT.out.g (g1.trans hg))).mono ?_
            rintro e w2 ⟨rfl, g2⟩
            rw [HY.out, HZ.out]
            have d2 := g2.cell (World.block_lt_of_cell? wr _ d0) d0
            have d3 := g2.cell (World.block_lt_of_cell? wr _ d1) d1
            have gA := hg.trans g2
            clear d0 d1 HZ HY
            go_wp2_with fail
            go_roundw
            case rel => exact ⟨k + 1, by omega, by go_num, gA⟩
            case measure => simp [intOf]; omega
          · obtain rfl : k = l.length := by omega
            go_wp2_with fail
            go_at_call 13
            refine (works_any _ (HT.out.g (g1.trans hg))).mono ?_
            rintro e w8 ⟨rfl, g8⟩
            have gE := (g1.trans hg).trans g8
            go_wp2_with fail
            go_ret
            exact ⟨rfl, gE⟩
    · have HL : Hid (spL a n l = []) := Lib.hid (if_neg hE)
      obtain ⟨q, hq⟩ : ∃ q, spE l n = q := ⟨_, rfl⟩
      have HQ := Lib.hid hq
      rw [hq] at hE
      have h0 : (q == 0) = false := by simpa using hE
      have h1 : (q != 0) = true := by simpa using hE
      clear hE hq
      go_enter Tryd.func8, Tryd.ntmps8
      go_wp2_with fail
      go_at_call 16
      refine (splays_any l _ a n hu n0 n1 _ HV.out HT.out).mono ?_
      rintro e w1 ⟨v1, rfl, r1, g1⟩
      rw [HQ.out]
      rw [HL.out] at r1
      obtain ⟨A1, c1, rfl, hc1, hm1, hr1⟩ := r1
      clear hr1
      rw [show (vI .i64 []).length = 0 from rfl] at *
      go_wp2_with fail
      go_at_call 13
      refine (works_any _ (HT.out.g g1)).mono ?_
      rintro e w8 ⟨rfl, g8⟩
      go_wp2_with fail
      go_ret
      exact ⟨rfl, (by repeat (first | exact G.refl _ | refine G.alloc ?_ _ | refine G.drewN ?_ _ | refine G.drew ?_ | refine G.trans ?_ (by assumption)))⟩

set_option maxHeartbeats 2000000 in
theorem contract (H : Type) (enc : TypeId × Value → H) (W : World) (base : Nat) (args : Array Value) (ds gs : List (DataW H)) (before : List MemPlace)
    (hval : ∀ (j : Nat) t v, Tryd.f8.params[j]? = some t → args[j]? = some v → Value.okWide Tryd.prog W .any base t v)
    (hW : DataW.Whole enc Tryd.prog Tryd.f8.params.toList Rows.hashRangesSpec.vars false W args.toList ds gs before) (hL : laidMetH Tryd.prog Rows.hashRangesRow.laid W) :
    Calls Tryd.prog 8 args W fun e W' => ∃ v, e = .returned v ∧ Rows.hashRangesSpec.post enc Tryd.prog Tryd.f8 false true false false W args v W' := by
  have hW' := hW
  obtain ⟨p, q, hA0, hV, rfl, hfz, hnd⟩ := hW
  have hA : DataW.TrodAll enc Tryd.prog W 0 (fun _ => true) true Tryd.f8.params.toList args.toList ds p := hA0
  rw [Tryd.params8] at hA hval
  obtain ⟨v0, vs0, d0, ds0, p0, q0, hargs, rfl, rfl, h0, r0⟩ := trodAll_cons hA
  obtain ⟨v1, vs1, d1, ds1, p1, q1, rfl, rfl, rfl, h1, r1⟩ := trodAll_cons r0
  obtain ⟨v2, vs2, d2, ds2, p2, q2, rfl, rfl, rfl, h2, r2⟩ := trodAll_cons r1
  obtain ⟨rfl, rfl, rfl⟩ := trodAll_nil r2
  obtain rfl : args = #[v0, v1, v2] := by cases args; simp_all
  obtain ⟨l0, R0, B0⟩ := open_texts Tryd.underlying22 Tryd.underlying9 (by kernel_rfl) (hval 0 22 v0 rfl rfl) h0
  obtain ⟨a1, rfl, rfl, rfl, w1⟩ := open_int Tryd.underlying23 (hval 1 23 v1 rfl rfl) h1
  simp [Lit.wf, IntKind.min, IntKind.max, IntKind.bits, IntKind.signed] at w1
  obtain ⟨a2, rfl, rfl, rfl, w2⟩ := open_int Tryd.underlying2 (hval 2 2 v2 rfl rfl) h2
  simp [Lit.wf, IntKind.min, IntKind.max, IntKind.bits, IntKind.signed] at w2
  refine (walk (w := W) v0 l0 R0 B0 a1 (by omega) (by omega) a2 (by omega) (by omega) (tab_of hL)).mono fun e W' ⟨he, hg⟩ => ?_
  subst he
  exact ⟨_, rfl, law_post laidOut_ (by
    intro t ht
    rw [Tryd.params8] at ht
    simp at ht
    rcases ht with rfl | rfl | rfl <;> exact ⟨by kernel_rfl, by decide +kernel⟩) hW' rfl rfl (by kernel_rfl) Tryd.underlying4 hg⟩
theorem laid_met (os : Os) : laidMet Tryd.prog Rows.hashRangesRow.laid ((laidWorld os).forCall (fun _ _ => 0) ⟨#[], #[.slice none 0 0, .int .u64 0, .int .i64 0], []⟩).memory :=
  laidMet_of_run' 8 (by kernel_rfl) (by kernel_rfl)
theorem reads (os : Os) {H : Type} (enc : TypeId × Value → H) : ∃ places, DataW.whole enc Tryd.prog ((laidWorld os).forCall (fun _ _ => 0) ⟨#[], #[.slice none 0 0, .int .u64 0, .int .i64 0], []⟩).memory Tryd.f8.params.toList Rows.hashRangesSpec.vars false (#[.slice none 0 0, .int .u64 0, .int .i64 0] : Array Value).toList 8 = some ([.nil, .lit (.int .u64 0), .lit (.int .i64 0)], [], places) :=
  ⟨[], by kernel_rfl⟩
set_option maxRecDepth 100000 in
theorem lifted (os : Os) (started : os.Started) (H : Type) (enc : TypeId × Value → H) (F : Stop.Interp) :
    ReturnsInHanded {} Tryd.checked os 8 .any ((OpenSpec.ofChange Rows.hashRangesSpec).preRow enc Tryd.prog Tryd.f8 Rows.hashRangesRow.domain false Rows.hashRangesRow.laid) (((OpenSpec.ofChange Rows.hashRangesSpec).at F).post enc Tryd.prog Tryd.f8 false true false false) := by
  obtain ⟨places, hx⟩ := reads os enc
  refine returnsInHanded_of_row (C := Tryd.checked) (s := OpenSpec.ofChange Rows.hashRangesSpec) own_ started (by kernel_rfl) Tryd.func8
    (witness_row_at (enc := enc) (C := Tryd.checked) false (laidWorld os) #[.slice none 0 0, .int .u64 0, .int .i64 0] rfl (by kernel_rfl) (by kernel_rfl) (by kernel_rfl)
      (OpenSpec.preRow_of_cond 8 hx (by kernel_rfl) (fun k hk => by cases hk) (by kernel_rfl) (laid_met os))) ?_
  intro W base args ds gs before hval hW _ _ _ hL _ _
  exact contract H enc W base args ds gs before hval hW hL
theorem said : Rows.HashRangesSaid :=
  OpenClaim.holds_of_cond 8 Tryd.f8 rfl rfl rfl rfl rfl rfl rfl ⟨rfl, rfl, rfl, rfl, rfl⟩ rfl rfl rfl rfl rfl (by kernel_rfl) Tryd.func8 (by kernel_rfl)
    (of_decide_eq_true (by kernel_rfl)) (by unfold Func.isWrapper; first | (rw [if_pos (by decide +kernel)]; kernel_rfl) | (rw [if_neg (by decide +kernel)]; exact ⟨rfl, rfl⟩))
    (fun os started H enc _ F => by rw [OpenClaim.pre_eq_preRow]; exact lifted os started H enc F)
theorem plain (f : FuncId) (fn : Func) (hf : Tryd.pinned.checked.prog.funcNamed "wakeman/wakemanlaw28.HashRanges" = some f) (hfn : Tryd.pinned.checked.prog.funcs[f]? = some fn) :
    false = Tryd.pinned.checked.prog.looks [] ∧ ∀ (j : Nat) t, fn.params[j]? = some t → Tryd.pinned.checked.prog.wantsStandIn t = false := by
  obtain rfl : f = 8 := Option.some.inj ((show Tryd.prog.funcNamed "wakeman/wakemanlaw28.HashRanges" = some 8 by kernel_rfl).symm.trans hf) |>.symm
  obtain rfl : fn = Tryd.f8 := (Option.some.inj (Tryd.func8.symm.trans hfn)).symm
  refine ⟨by kernel_rfl, fun j t ht => ?_⟩
  rw [Tryd.params8] at ht
  have hm := Array.mem_of_getElem? ht
  simp at hm
  rcases hm with rfl | rfl | rfl
  · exact (show Tryd.prog.wantsStandIn 22 = false by kernel_rfl)
  · exact (show Tryd.prog.wantsStandIn 23 = false by kernel_rfl)
  · exact (show Tryd.prog.wantsStandIn 2 = false by kernel_rfl)
theorem card : Rows.HashRangesCardSaid :=
  Claim7.holds_tied_plain_at .later [] _ _ _ _ said (fun _ h => by cases h) (by kernel_rfl) (fun _ h => by cases h) hashRanges_row_tie rfl ⟨rfl, rfl⟩ (by kernel_rfl) rfl plain (by kernel_rfl)
#print axioms card
end Go.Proofs.YtodijghpeikmoaaDoor.lawHashRanges
