/-
  HashCounts: the numbers of the places add up to that of the names; each name is counted at its place.
  Conditions: none beyond the row's own (the table of package mix as the program's text lays it).
-/
import Derived.Test.YtodijghpeikmoaaDoorTieS
import Derived.Test.YtodijghpeikmoaaDoorHsU
set_option linter.unusedVariables false
set_option linter.unusedSimpArgs false
namespace Go.Proofs.YtodijghpeikmoaaDoor.lawHashCounts
open Go.ChangeShapes Go.WideShapes Go.ChangeAt Go.RowKit

theorem spE_one {l : List ByteArray} {n : Int} (h : spE l n = 0) : (0 ≤ n ∧ n ≤ 68719476736) ∧ l.length ≤ 64 ∧ okS l ∧ ∀ k, k < l.length → spE [l[k]?.getD ByteArray.empty] n = 0 := by
  have hc : chkH l = 0 := by
    unfold spE at h
    split at h
    · assumption
    · exact h
  have hn : 0 ≤ n ∧ n ≤ 68719476736 := by
    unfold spE at h
    rw [if_pos hc] at h
    split at h
    · assumption
    · omega
  have ha : nmsAll l = true := by
    unfold chkH at hc
    split at hc
    · omega
    · split at hc
      · assumption
      · omega
  refine ⟨hn, chkH_ok hc, chk_okS hc, fun k hk => ?_⟩
  have h1 : nmB (l[k]?.getD ByteArray.empty) = true := by
    rw [List.getElem?_eq_getElem hk]
    exact List.all_eq_true.1 ha _ (List.getElem_mem hk)
  have h2 : chkH [l[k]?.getD ByteArray.empty] = 0 := by
    unfold chkH
    rw [if_neg (by simp), if_pos (by simp [nmsAll, h1])]
  unfold spE
  rw [if_pos h2, if_pos hn]
theorem spV_ok {a n : Int} {s : ByteArray} (h : spE [s] n = 0) : spV a n s = placeI a (max n 1) s := if_pos h
theorem bk_spE {l : List ByteArray} {n : Int} (h : bkE l n = 0) : (1 ≤ n ∧ n ≤ 64) ∧ spE l n = 0 := by
  have hc : chkH l = 0 := by
    unfold bkE at h
    split at h
    · assumption
    · exact h
  have hn : 1 ≤ n ∧ n ≤ 64 := by
    unfold bkE at h
    rw [if_pos hc] at h
    split at h
    · assumption
    · omega
  refine ⟨hn, ?_⟩
  unfold spE
  rw [if_pos hc, if_pos (by omega)]
/-- block g holds what is left of the counts C behind the names pre -/
def LeftAt (w : World) (g m : Nat) (a : Int) (C : List Int) (pre : List ByteArray) : Prop :=
  ∃ cur, Blk w g 3 cur ∧ m ≤ cur.size ∧ ∀ j, j < m → cur[j]? = some (.int .i64 (at_ C j - at_ (cntL a m pre) j))
theorem LeftAt.g {w w' : World} {g m : Nat} {a : Int} {C : List Int} {pre : List ByteArray} (h : LeftAt w g m a C pre) (k : G w w') : LeftAt w' g m a C pre := by
  obtain ⟨cur, b, s, c⟩ := h
  exact ⟨cur, b.g k, s, c⟩
theorem LeftAt.step {w : World} {g m : Nat} {a : Int} {C : List Int} {pre : List ByteArray} (h : LeftAt w g m a C pre) (x : ByteArray) (p : Nat) (hp : placeI a m x = p) (hpm : p < m) :
    LeftAt (w.setCell ⟨g, p, none⟩ (.int .i64 (at_ C p - at_ (cntL a m pre) p - 1))) g m a C (pre ++ [x]) := by
  obtain ⟨cur, b, s, c⟩ := h
  refine ⟨_, b.set_ p _, by simpa using s, fun j hj => ?_⟩
  rw [cntL_snoc, hp]
  unfold bump
  rw [at_set, Int.toNat_natCast, cntL_len, Array.getElem?_setIfInBounds]
  by_cases e : p = j
  · subst e
    rw [if_pos rfl, if_pos (by omega), if_pos ⟨rfl, hpm⟩]
    congr 2
    omega
  · rw [if_neg e, if_neg (by omega)]
    exact c j hj
theorem place_nat (a : Int) (m : Nat) (s : ByteArray) (h : 0 < m) : ∃ p : Nat, placeI a m s = p ∧ p < m := by
  have hp := placeI_bd a m s (by omega)
  generalize placeI a m s = x at hp
  exact ⟨x.toNat, by omega, by omega⟩
theorem cnt_two (a : Int) (m : Nat) (l : List ByteArray) (k p : Nat) (h : l.length ≤ 64) : 0 ≤ at_ (cntL a m (l.take k)) p ∧ at_ (cntL a m (l.take k)) p ≤ 64 := by
  have hb1 := cntL_bd a m (l.take k) p
  have hlen2 : (l.take k).length ≤ 64 := by rw [List.length_take]; omega
  omega
theorem cntL_nil (a : Int) (m j : Nat) : at_ (cntL a m []) j = 0 := by
  unfold cntL at_
  rw [List.foldl_nil, List.getElem?_replicate]
  split <;> rfl
theorem own_empty (w : World) : (w.alloc (.cells #[] 3)).ownsRow w.heap.size 3 1 (.slice (some ⟨w.heap.size, 0, none⟩) 0 0) 0 [] :=
  ⟨rfl, .inr ⟨_, 0, #[], rfl, Nat.le_refl _, Blk.new w _ _, Nat.le_refl _, by simp [maxLen], rfl, rfl⟩⟩
theorem left_of_own {w : World} {base : Nat} {v : Value} {m : Nat} {C : List Int} {a : Int} (hm : 0 < m) (hC : C.length = m) (h : w.ownsRow base 3 1 v (0 + m) ([] ++ vI .i64 C)) :
    ∃ g cap, v = .slice (some ⟨g, 0, none⟩) m cap ∧ base ≤ g ∧ m ≤ cap ∧ cap ≤ 9223372036854775807 ∧ LeftAt w g m a C [] := by
  rw [Nat.zero_add, List.nil_append] at h
  obtain ⟨hl, hv⟩ := h
  rcases hv with ⟨_, h0⟩ | ⟨g, cap, cur, rfl, hb, hg, hn, hx, hs, ht⟩
  · omega
  · refine ⟨g, cap, rfl, hb, hn, by simpa [maxLen] using hx, cur, hg, by omega, fun j hj => ?_⟩
    rw [cntL_nil, Int.sub_zero, ← Array.getElem?_toList]
    have h2 := vI_get (k := .i64) (l := C) (j := j) (by omega)
    rw [← ht, Nat.mul_one, List.getElem?_take_of_lt hj] at h2
    exact h2
theorem info_int : (Tryd.prog.info? 3).map (fun i => (i.zero, i.size, i.bytes)) = some (some (.int .i64 0), 1, 8) := by kernel_rfl
set_option maxHeartbeats 4000000 in
theorem walk (w : World) (v : Value) (l : List ByteArray) (R : Rd w v (vS l)) (B : ∀ s ∈ l, s.size ≤ 9223372036854775807) (a : Int) (a0 : 0 ≤ a) (a1 : a ≤ 18446744073709551615) (n : Int) (n0 : -9223372036854775808 ≤ n) (n1 : n ≤ 9223372036854775807) (ht : Tab w) :
    Calls Tryd.prog 9 #[v, .int .u64 a, .int .i64 n] w fun e w' => e = .returned (.bool true) ∧ G w w' := by
  have HT := Lib.hid ht
  have hu : u64 a := ⟨a0, by omega⟩
  clear ht B
  have HV := Lib.hid R
  obtain ⟨A, c, rfl, hcc, hcm, hr⟩ := R
  rw [vS_len] at *
  have HR : Hid (∀ k, k < l.length → ∃ b o, A = some ⟨b, o, none⟩ ∧ w.cell? ⟨b, o + k, none⟩ = some (.string (l[k]?.getD ByteArray.empty))) := Lib.hid (fun k hk => by
      obtain ⟨b, o, e, h⟩ := hr (by omega)
      exact ⟨b, o, e, h k _ (vS_get hk)⟩)
  clear hr
  by_cases hbig : 64 < l.length
  · go_enter Tryd.func9, Tryd.ntmps9
    go_wp2_with fail
    go_at_call 13
    refine (works_any _ HT.out).mono ?_
    rintro e w8 ⟨rfl, g8⟩
    go_wp2_with fail
    go_ret
    exact ⟨rfl, (by repeat (first | exact G.refl _ | refine G.alloc ?_ _ | refine G.drewN ?_ _ | refine G.drew ?_ | refine G.trans ?_ (by assumption)))⟩
  · have hll : l.length ≤ 64 := by omega
    clear hbig
    by_cases hE : bkE l n = 0
    · obtain ⟨⟨hn0, hn1⟩, hS⟩ := bk_spE hE
      obtain ⟨-, -, hok, hone⟩ := spE_one hS
      obtain ⟨m, rfl⟩ : ∃ m : Nat, n = m := ⟨n.toNat, by omega⟩
      have HO := Lib.hid hok
      have HE := Lib.hid hE
      have H1 := Lib.hid hone
      have HL : Hid (bkL l a m = cntL a m l) := Lib.hid (by unfold bkL; rw [if_pos hE, Int.toNat_natCast])
      have HX : Hid (∀ k, k < l.length → spV a m (l[k]?.getD ByteArray.empty) = placeI a m (l[k]?.getD ByteArray.empty)) := Lib.hid (fun k hk => by rw [spV_ok (hone k hk), show max (m : Int) 1 = m by omega])
      have hm0 : 0 < m := by omega
      have hm64 : m ≤ 64 := by omega
      obtain ⟨i0, hi, hz0, hz1, hz2⟩ := info_parts info_int
      clear hok hone hE hS
      go_enter Tryd.func9, Tryd.ntmps9
      go_wp2_with fail
      go_at_call 18
      refine (buckets_any l _ a m hu _ HV.out HT.out).mono ?_
      rintro e w1 ⟨v1, rfl, r1, g1⟩
      rw [HE.out]
      rw [HL.out] at r1
      have hCl := cntL_len a m l
      have HC : Hid (∀ j, 0 ≤ at_ (cntL a m l) j ∧ at_ (cntL a m l) j ≤ 64) := Lib.hid (fun j => by have := cntL_bd a m l j; omega)
      have HZ : Hid (at_ (cntL a m l) = at_ (cntL a m (l.take l.length))) := Lib.hid (by rw [List.take_length])
      generalize hCC : cntL a m l = C at *
      clear hCC HL
      obtain ⟨A1, c1, rfl, hc1, hm1, hr1⟩ := r1
      rw [vI_len, hCl] at hc1 hr1 ⊢
      obtain ⟨b1, o1, rfl, hd1⟩ := hr1 (by omega)
      have HD := Lib.hid hd1
      clear hr1 hd1
      have HN : Hid (∀ j u, (vI .i64 C)[j]? = some u → (w1.alloc (.cells #[] 3)).cell? ((⟨b1, o1, none⟩ : Addr).add j) = some u) := Lib.hid (fun j u hj => by rw [Go.WideShapes.add_plain]; exact ((G.refl w1).alloc _).cell (World.block_lt_of_cell? w1 _ (HD.out j u hj)) (HD.out j u hj))
      have hkv : (vI .i64 C).length = m := by rw [vI_len, hCl]
      go_wp2_with (at_builtin; refine wpList_append_own _ rfl _ _ 32 rfl w1.heap.size 3 i0 (.int .i64 0) 1 8 Tryd.underlying32 hi hz0 hz1 hz2 rfl (by decide) _ _ _ rfl (own_empty w1) ⟨b1, o1, none⟩ m c1 (vI .i64 C) rfl (by rw [hkv, Nat.mul_one]) HN.out (by simp [vI, Value.oneCell']) (by unfold maxLen; omega) (by omega) (by simp) ?_; intro v2 w2 hown' hgrow _)
      have gW : G w1 w2 := ((G.refl w1).alloc _).grown hgrow (fun r e => by cases e; exact Nat.le_refl _)
      obtain ⟨g, cap, rfl, hgb, hcap, hcap2, hleft⟩ := left_of_own (a := a) hm0 hCl hown'
      clear hown' hgrow HD HN hkv
      go_wp2_with fail
      go_loopw [10] (fun kv wr => ∃ k : Nat, k ≤ l.length ∧ kv = .int .i64 k ∧ G w1 wr ∧ LeftAt wr g m a C (l.take k)) (fun kv _ => l.length - (intOf kv).toNat)
      case atStart => exact ⟨0, by omega, rfl, gW, hleft⟩
      case round =>
        obtain ⟨k, hk, rfl, hg, hlf⟩ := hrel
        clear hleft gW
        by_cases hlt : k < l.length
        · have hkl : (k : Int) < l.length := by omega
          obtain ⟨b, o, rfl, hcell⟩ := HR.out k hlt
          have e0 := g1.cell (World.block_lt_of_cell? w _ hcell) hcell
          have d0 := hg.cell (World.block_lt_of_cell? w1 _ e0) e0
          have HY := Lib.hid (HX.out k hlt)
          have HZ1 := Lib.hid (H1.out k hlt)
          have HS := Lib.hid (HO.out k)
          have HU := Lib.hid (take_snoc l hlt)
          clear hcell e0
          generalize l[k]?.getD ByteArray.empty = s at *
          go_wp2_with fail
          go_at_call 14
          refine (splay_any s a m hu n0 n1 HS.out _ (HT.out.g (g1.trans hg))).mono ?_
          rintro e w3 ⟨rfl, g3⟩
          rw [HY.out, HZ1.out]
          obtain ⟨p, hpp, hpm⟩ := place_nat a m s hm0
          obtain ⟨hb1, hb3⟩ := cnt_two a m l k p hll
          obtain ⟨hb2, hb4⟩ := HC.out p
          have hlf3 := hlf.g g3
          have hgA := hg.trans g3
          have HST := Lib.hid (hlf3.step s p hpp hpm)
          obtain ⟨cur, hB, hsz, hcur⟩ := hlf3
          have d1 : w3.cell? ⟨g, p, none⟩ = some (.int .i64 (at_ C p - at_ (cntL a m (l.take k)) p)) := by rw [hB.cell p]; exact hcur p hpm
          have f1 := hB.frozen p
          rw [hpp]
          have hpi : (p : Int) < m := by omega
          clear hlf hcur hpp d0 HY HZ1
          generalize at_ (cntL a m (l.take k)) p = y at *
          generalize at_ C p = x at *
          go_wp2_with fail
          go_roundw
          case rel => exact ⟨k + 1, by omega, by go_num, hgA.setCell (p := ⟨g, p, none⟩) hgb _, by rw [HU.out]; exact HST.out⟩
          case measure => simp [intOf]; omega
        · obtain rfl : k = l.length := by omega
          have HQ : Hid (∀ j, j < m → ∃ cur, Blk wr g 3 cur ∧ cur[j]? = some (.int .i64 0)) := Lib.hid (fun j hj => by
            obtain ⟨cur, hB, _, hc⟩ := hlf
            refine ⟨cur, hB, ?_⟩
            rw [hc j hj, ← HZ.out]
            congr 2
            omega)
          clear hlf HZ
          obtain ⟨wo, rfl⟩ : ∃ wo : World, wo = wr := ⟨_, rfl⟩
          go_wp2_with fail
          go_loopw [13] (fun kv wr => ∃ k : Nat, k ≤ m ∧ kv = .int .i64 k ∧ G wo wr) (fun kv _ => m - (intOf kv).toNat)
          case atStart => exact ⟨0, by omega, rfl, G.refl _⟩
          case round =>
            obtain ⟨k, hk, rfl, hg2⟩ := hrel
            by_cases hlt : k < m
            · have hkm : (k : Int) < m := by omega
              obtain ⟨cur, hB, hc0⟩ := HQ.out k hlt
              have d1 : wr.cell? ⟨g, k, none⟩ = some (.int .i64 0) := by rw [(hB.g hg2).cell k]; exact hc0
              go_wp2_with fail
              go_roundw
              case rel => exact ⟨k + 1, by omega, by go_num, hg2⟩
              case measure => simp [intOf]; omega
            · obtain rfl : k = m := by omega
              go_wp2_with fail
              go_at_call 13
              refine (works_any _ (HT.out.g ((g1.trans hg).trans hg2))).mono ?_
              rintro e w8 ⟨rfl, g8⟩
              have gE := ((g1.trans hg).trans hg2).trans g8
              go_wp2_with fail
              go_ret
              exact ⟨rfl, gE⟩
    · have HL : Hid (bkL l a n = []) := Lib.hid (if_neg hE)
      obtain ⟨q, hq⟩ : ∃ q, bkE l n = q := ⟨_, rfl⟩
      have HQ := Lib.hid hq
      rw [hq] at hE
      have h0 : (q == 0) = false := by simpa using hE
      have h1 : (q != 0) = true := by simpa using hE
      clear hE hq
      go_enter Tryd.func9, Tryd.ntmps9
      go_wp2_with fail
      go_at_call 18
      refine (buckets_any l _ a n hu _ HV.out HT.out).mono ?_
      rintro e w1 ⟨v1, rfl, r1, g1⟩
      rw [HQ.out]
      rw [HL.out] at r1
      obtain ⟨A1, c1, rfl, hc1, hm1, hr1⟩ := r1
      clear hr1
      rw [show (vI .i64 []).length = 0 from rfl] at *
      go_wp2_with fail
      go_at_call 13
      refine (works_any _ (HT.out.g g1)).mono ?_
      rintro e w8 ⟨rfl, g8⟩
      go_wp2_with fail
      go_ret
      exact ⟨rfl, (by repeat (first | exact G.refl _ | refine G.alloc ?_ _ | refine G.drewN ?_ _ | refine G.drew ?_ | refine G.trans ?_ (by assumption)))⟩

set_option maxHeartbeats 2000000 in
theorem contract (H : Type) (enc : TypeId × Value → H) (W : World) (base : Nat) (args : Array Value) (ds gs : List (DataW H)) (before : List MemPlace)
    (hval : ∀ (j : Nat) t v, Tryd.f9.params[j]? = some t → args[j]? = some v → Value.okWide Tryd.prog W .any base t v)
    (hW : DataW.Whole enc Tryd.prog Tryd.f9.params.toList Rows.hashCountsSpec.vars false W args.toList ds gs before) (hL : laidMetH Tryd.prog Rows.hashCountsRow.laid W) :
    Calls Tryd.prog 9 args W fun e W' => ∃ v, e = .returned v ∧ Rows.hashCountsSpec.post enc Tryd.prog Tryd.f9 false true false false W args v W' := by
  have hW' := hW
  obtain ⟨p, q, hA0, hV, rfl, hfz, hnd⟩ := hW
  have hA : DataW.TrodAll enc Tryd.prog W 0 (fun _ => true) true Tryd.f9.params.toList args.toList ds p := hA0
  rw [Tryd.params9] at hA hval
  obtain ⟨v0, vs0, d0, ds0, p0, q0, hargs, rfl, rfl, h0, r0⟩ := trodAll_cons hA
  obtain ⟨v1, vs1, d1, ds1, p1, q1, rfl, rfl, rfl, h1, r1⟩ := trodAll_cons r0
  obtain ⟨v2, vs2, d2, ds2, p2, q2, rfl, rfl, rfl, h2, r2⟩ := trodAll_cons r1
  obtain ⟨rfl, rfl, rfl⟩ := trodAll_nil r2
  obtain rfl : args = #[v0, v1, v2] := by cases args; simp_all
  obtain ⟨l0, R0, B0⟩ := open_texts Tryd.underlying22 Tryd.underlying9 (by kernel_rfl) (hval 0 22 v0 rfl rfl) h0
  obtain ⟨a1, rfl, rfl, rfl, w1⟩ := open_int Tryd.underlying23 (hval 1 23 v1 rfl rfl) h1
  simp [Lit.wf, IntKind.min, IntKind.max, IntKind.bits, IntKind.signed] at w1
  obtain ⟨a2, rfl, rfl, rfl, w2⟩ := open_int Tryd.underlying3 (hval 2 3 v2 rfl rfl) h2
  simp [Lit.wf, IntKind.min, IntKind.max, IntKind.bits, IntKind.signed] at w2
  refine (walk (w := W) v0 l0 R0 B0 a1 (by omega) (by omega) a2 (by omega) (by omega) (tab_of hL)).mono fun e W' ⟨he, hg⟩ => ?_
  subst he
  exact ⟨_, rfl, law_post laidOut_ (by
    intro t ht
    rw [Tryd.params9] at ht
    simp at ht
    rcases ht with rfl | rfl | rfl <;> exact ⟨by kernel_rfl, by decide +kernel⟩) hW' rfl rfl (by kernel_rfl) Tryd.underlying4 hg⟩
theorem laid_met (os : Os) : laidMet Tryd.prog Rows.hashCountsRow.laid ((laidWorld os).forCall (fun _ _ => 0) ⟨#[], #[.slice none 0 0, .int .u64 0, .int .i64 0], []⟩).memory :=
  laidMet_of_run' 8 (by kernel_rfl) (by kernel_rfl)
theorem reads (os : Os) {H : Type} (enc : TypeId × Value → H) : ∃ places, DataW.whole enc Tryd.prog ((laidWorld os).forCall (fun _ _ => 0) ⟨#[], #[.slice none 0 0, .int .u64 0, .int .i64 0], []⟩).memory Tryd.f9.params.toList Rows.hashCountsSpec.vars false (#[.slice none 0 0, .int .u64 0, .int .i64 0] : Array Value).toList 8 = some ([.nil, .lit (.int .u64 0), .lit (.int .i64 0)], [], places) :=
  ⟨[], by kernel_rfl⟩
set_option maxRecDepth 100000 in
theorem lifted (os : Os) (started : os.Started) (H : Type) (enc : TypeId × Value → H) (F : Stop.Interp) :
    ReturnsInHanded {} Tryd.checked os 9 .any ((OpenSpec.ofChange Rows.hashCountsSpec).preRow enc Tryd.prog Tryd.f9 Rows.hashCountsRow.domain false Rows.hashCountsRow.laid) (((OpenSpec.ofChange Rows.hashCountsSpec).at F).post enc Tryd.prog Tryd.f9 false true false false) := by
  obtain ⟨places, hx⟩ := reads os enc
  refine returnsInHanded_of_row (C := Tryd.checked) (s := OpenSpec.ofChange Rows.hashCountsSpec) own_ started (by kernel_rfl) Tryd.func9
    (witness_row_at (enc := enc) (C := Tryd.checked) false (laidWorld os) #[.slice none 0 0, .int .u64 0, .int .i64 0] rfl (by kernel_rfl) (by kernel_rfl) (by kernel_rfl)
      (OpenSpec.preRow_of_cond 8 hx (by kernel_rfl) (fun k hk => by cases hk) (by kernel_rfl) (laid_met os))) ?_
  intro W base args ds gs before hval hW _ _ _ hL _ _
  exact contract H enc W base args ds gs before hval hW hL
theorem said : Rows.HashCountsSaid :=
  OpenClaim.holds_of_cond 9 Tryd.f9 rfl rfl rfl rfl rfl rfl rfl ⟨rfl, rfl, rfl, rfl, rfl⟩ rfl rfl rfl rfl rfl (by kernel_rfl) Tryd.func9 (by kernel_rfl)
    (of_decide_eq_true (by kernel_rfl)) (by unfold Func.isWrapper; first | (rw [if_pos (by decide +kernel)]; kernel_rfl) | (rw [if_neg (by decide +kernel)]; exact ⟨rfl, rfl⟩))
    (fun os started H enc _ F => by rw [OpenClaim.pre_eq_preRow]; exact lifted os started H enc F)
theorem plain (f : FuncId) (fn : Func) (hf : Tryd.pinned.checked.prog.funcNamed "wakeman/wakemanlaw28.HashCounts" = some f) (hfn : Tryd.pinned.checked.prog.funcs[f]? = some fn) :
    false = Tryd.pinned.checked.prog.looks [] ∧ ∀ (j : Nat) t, fn.params[j]? = some t → Tryd.pinned.checked.prog.wantsStandIn t = false := by
  obtain rfl : f = 9 := Option.some.inj ((show Tryd.prog.funcNamed "wakeman/wakemanlaw28.HashCounts" = some 9 by kernel_rfl).symm.trans hf) |>.symm
  obtain rfl : fn = Tryd.f9 := (Option.some.inj (Tryd.func9.symm.trans hfn)).symm
  refine ⟨by kernel_rfl, fun j t ht => ?_⟩
  rw [Tryd.params9] at ht
  have hm := Array.mem_of_getElem? ht
  simp at hm
  rcases hm with rfl | rfl | rfl
  · exact (show Tryd.prog.wantsStandIn 22 = false by kernel_rfl)
  · exact (show Tryd.prog.wantsStandIn 23 = false by kernel_rfl)
  · exact (show Tryd.prog.wantsStandIn 3 = false by kernel_rfl)
theorem card : Rows.HashCountsCardSaid :=
  Claim7.holds_tied_plain_at .later [] _ _ _ _ said (fun _ h => by cases h) (by kernel_rfl) (fun _ h => by cases h) hashCounts_row_tie rfl ⟨rfl, rfl⟩ (by kernel_rfl) rfl plain (by kernel_rfl)
#print axioms card
end Go.Proofs.YtodijghpeikmoaaDoor.lawHashCounts
